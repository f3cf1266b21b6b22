/- For all days the program's LatitudeForDay answers as the reference's does. No condition. -/
import Derived.Test.YtibbbeidbapfeaaQFnExactLatitudeForDayx2
import Derived.Test.YtibbbeidbapfeaaBase
import Derived.Test.YtibbbeidbapfeaaSky
namespace Go.Proofs.Ytibbbeidbapfeaa.Pure
open Go Go.RowKit Go.Proofs.Ytibbbeidbapfeaa.QFnExactLatitudeForDay Go.Proofs.YtibbbeidbapfeaaW.PrintWords Go.Proofs.YtibbbeidbapfeaaW.PrintLast Go.Proofs.YtibbbeidbapfeaaW.PrintMore Go.Proofs.Ytibbbeidbapfeaa.Base
set_option linter.unusedVariables false
set_option linter.unusedSimpArgs false

theorem In_ (a b c : Int) : spec_l00In.f a b c = some (decide (b ≤ a ∧ a ≤ c)) := by
  unfold spec_l00In.f
  by_cases h : a ≥ b
  · rw [if_pos h]; simp [show b ≤ a from h]
  · rw [if_neg h]; simp [show ¬ b ≤ a from h]

theorem Floor_ (a b : Int) (hb : 0 < b) (ha : -4611686018427387904 ≤ a) (ha2 : a ≤ 4611686018427387904) : spec_l00Floor.f a b = some (a / b) := by
  unfold spec_l00Floor.f
  rw [if_neg (by omega)]
  obtain ⟨h1, h2⟩ := ediv_bounds a b 4611686018427387904 hb ha ha2 (by omega)
  have e := floor_eq a b hb
  by_cases c : Int.tmod a b < 0
  · rw [if_pos c] at e ⊢; rw [w64 (n := Int.tdiv a b) (by omega) (by omega), w64 (by omega) (by omega), e]
  · rw [if_neg c] at e ⊢; rw [w64 (by omega) (by omega), e]

theorem Round_ (a b : Int) (hb : 0 < b) (hb2 : b ≤ 100000000000000000) (ha : -2000000000000000000 ≤ a) (ha2 : a ≤ 2000000000000000000) : spec_l00Round.f a b = some (near a b) := by
  unfold spec_l00Round.f
  rw [w64 (n := 2 * a) (by omega) (by omega), w64 (n := 2 * a + b) (by omega) (by omega), w64 (n := 2 * b) (by omega) (by omega), Floor_ _ _ (by omega) (by omega) (by omega)]
  rfl

theorem SpecSine_lo (k : Nat) (hk : 2 ≤ k) (x : Int) (h0 : 0 ≤ x) (h1 : x ≤ 648000) : spec_l03Sine.f k x = some (sn0 x) := by
  obtain ⟨k, rfl⟩ : ∃ m, k = m + 2 := ⟨k - 2, by omega⟩
  have tm : Int.tmod x 1296000 = x := by rw [tmod_eq _ _ (by omega), if_pos h0]; omega
  simp only [spec_l03Sine.f]
  rw [tm, if_neg (by omega)]
  simp only [spec_l03Sine.j0]
  rw [if_neg (by omega), w64 (n := 648000 - x) (by omega) (by omega)]
  have hp := pp_bounds x h0 h1
  rw [show x * (648000 - x) = pp x from rfl, w64 (n := pp x) (by omega) (by omega), w64 (n := 16 * pp x) (by omega) (by omega), w64 (n := 16 * pp x * 1000000) (by omega) (by omega), w64 (n := 5 * 648000) (by omega) (by omega), w64 (n := 5 * 648000 * 648000) (by omega) (by omega), w64 (n := 4 * pp x) (by omega) (by omega), w64 (n := 5 * 648000 * 648000 - 4 * pp x) (by omega) (by omega), Round_ _ _ (by omega) (by omega) (by omega) (by omega)]
  simp only [Option.bind_some]
  unfold sn0 sp
  rw [show 16 * pp x * 1000000 = 16000000 * pp x by omega, show 5 * 648000 * 648000 - 4 * pp x = 2099520000000 - 4 * pp x by omega]

theorem SpecSine_j (k : Nat) (hk : 3 ≤ k) (x : Int) (h0 : 0 ≤ x) (h1 : x < 1296000) : spec_l03Sine.j0 k 648000 x = some (if x ≥ 648000 then -(sn0 (x - 648000)) else sn0 x) := by
  by_cases c : x > 648000
  · obtain ⟨k, rfl⟩ : ∃ m, k = m + 1 := ⟨k - 1, by omega⟩
    simp only [spec_l03Sine.j0]
    have := sn0_bounds (x - 648000) (by omega) (by omega)
    rw [if_pos c, w64 (n := x - 648000) (by omega) (by omega), SpecSine_lo k (by omega) _ (by omega) (by omega)]
    simp only [Option.bind_some]
    rw [w64 (by omega) (by omega), if_pos (by omega)]
  · have h := SpecSine_lo (k + 1) (by omega) x h0 (by omega)
    have tm : Int.tmod x 1296000 = x := by rw [tmod_eq _ _ (by omega), if_pos h0]; omega
    simp only [spec_l03Sine.f] at h
    rw [tm, if_neg (by omega)] at h
    rw [h]
    by_cases e : x = 648000
    · subst e; decide
    · rw [if_neg (by omega)]

theorem SpecSine_ (k : Nat) (hk : 6 ≤ k) (a : Int) : spec_l03Sine.f k a = some (sn a) := by
  obtain ⟨k, rfl⟩ : ∃ m, k = m + 1 := ⟨k - 1, by omega⟩
  simp only [spec_l03Sine.f]
  have tm := tmod_eq a 1296000 (by omega)
  by_cases c : Int.tmod a 1296000 < 0
  · have e : Int.tmod a 1296000 + 1296000 = a % 1296000 := by rw [tm] at c ⊢; split at c <;> omega
    rw [if_pos c, e, w64 (by omega) (by omega), SpecSine_j k (by omega) _ (by omega) (by omega)]; rfl
  · have e : Int.tmod a 1296000 = a % 1296000 := by rw [tm] at c ⊢; split at c <;> omega
    rw [if_neg c, e, SpecSine_j k (by omega) _ (by omega) (by omega)]; rfl

theorem SpecSun21_ (k : Nat) (hk : 6 ≤ k) (a : Int) (h0 : 0 ≤ a) (h1 : a ≤ 365) : spec_l21Sun.f k a = some (sd a) := by
  unfold spec_l21Sun.f
  rw [w64 (n := a - 80) (by omega) (by omega), w64 (n := (a - 80) * 1296000) (by omega) (by omega), Floor_ _ _ (by omega) (by omega) (by omega)]; simp only [Option.bind_some]
  rw [SpecSine_ k hk]; simp only [Option.bind_some]
  have := sn_bounds ((a - 80) * 1296000 / 365)
  rw [w64 (n := 84600 * sn ((a - 80) * 1296000 / 365)) (by omega) (by omega), Round_ _ _ (by omega) (by omega) (by omega) (by omega)]; rfl

theorem SpecCosine_ (k : Nat) (hk : 6 ≤ k) (a : Int) (h0 : -4611686018427387904 ≤ a) (h1 : a ≤ 4611686018427387904) : spec_l03Cosine.f k a = some (cs a) := by
  unfold spec_l03Cosine.f
  rw [w64 (by omega) (by omega), SpecSine_ k hk]; rfl

theorem Min_ (a b : Int) : spec_l00Min.f a b = some (mn a b) := by
  unfold spec_l00Min.f mn
  by_cases h : a < b
  · rw [if_pos h, if_neg (by omega)]
  · rw [if_neg h]; by_cases h2 : b < a
    · rw [if_pos h2]
    · rw [if_neg h2, show a = b by omega]

theorem Max_ (a b : Int) : spec_l00Max.f a b = some (mx a b) := by
  unfold spec_l00Max.f mx
  by_cases h : a > b
  · rw [if_pos h, if_neg (by omega)]
  · rw [if_neg h]; by_cases h2 : a < b
    · rw [if_pos h2]
    · rw [if_neg h2, show a = b by omega]

theorem Wrap_ (a : Int) (ha : -4611686018427387904 ≤ a) (ha2 : a ≤ 4611686018427387904) : spec_l02Wrap.f a = some (wr a) := by
  unfold spec_l02Wrap.f wr
  rw [w64 (n := a + 648000) (by omega) (by omega), tmod_eq _ _ (by omega)]
  by_cases h : 0 ≤ a + 648000
  · rw [if_pos h, if_neg (by omega), w64 (by omega) (by omega)]
  · rw [if_neg h]
    by_cases h2 : -(-(a + 648000) % 1296000) < 0
    · rw [if_pos h2, w64 (n := -(-(a + 648000) % 1296000) + 1296000) (by omega) (by omega), w64 (by omega) (by omega)]; congr 1; omega
    · rw [if_neg h2, w64 (by omega) (by omega)]; congr 1; omega

theorem SpecAlt_ (k : Nat) (hk : 6 ≤ k) (l d h : Int) (hl : -324000 ≤ l ∧ l ≤ 324000) (hd : -324000 ≤ d ∧ d ≤ 324000) (hh : -1000000000 ≤ h ∧ h ≤ 1000000000) : spec_l21Sine.f k l d h = some (alt l d h) := by
  unfold spec_l21Sine.f spec_l05Cos.f
  have hw := wr_range h
  rw [Wrap_ _ (by omega) (by omega)]; simp only [Option.bind_some]
  rw [SpecSine_ k hk, SpecSine_ k hk, SpecCosine_ k hk _ (by omega) (by omega), SpecCosine_ k hk _ (by omega) (by omega)]; simp only [Option.bind_some]
  rw [w64 (n := wr h - 0) (by omega) (by omega), SpecCosine_ k hk _ (by omega) (by omega), Int.sub_zero]; simp only [Option.bind_some]
  have s1 := sn_bounds l
  have s2 := sn_bounds d
  have c1 := cs_bounds l
  have c2 := cs_bounds d
  have c3 := cs_bounds (wr h)
  have m1 := mul_bounds (sn l) (sn d) 1000000 1000000 (by omega) (by omega) (by omega) (by omega) (by omega) (by omega)
  have m2 := mul_bounds (cs l) (cs d) 1000000 1000000 (by omega) (by omega) (by omega) (by omega) (by omega) (by omega)
  have m3 := mul_bounds (cs l * cs d) (cs (wr h)) 1000000000000 1000000 (by omega) (by omega) (by omega) (by omega) (by omega) (by omega)
  rw [w64 (n := sn l * sn d) (by omega) (by omega), w64 (n := sn l * sn d * 1000000) (by omega) (by omega), w64 (n := cs l * cs d) (by omega) (by omega), w64 (n := cs l * cs d * cs (wr h)) (by omega) (by omega), w64 (n := sn l * sn d * 1000000 + cs l * cs d * cs (wr h)) (by omega) (by omega), Floor_ _ _ (by omega) (by omega) (by omega)]; simp only [Option.bind_some]
  rw [Min_]; simp only [Option.bind_some]
  rw [Max_]; rfl

theorem SpecUp_ (k : Nat) (hk : 6 ≤ k) (l d h : Int) (hl : -324000 ≤ l ∧ l ≤ 324000) (hd : -324000 ≤ d ∧ d ≤ 324000) (hh : -1000000000 ≤ h ∧ h ≤ 1000000000) : spec_l21Up.f k l d h = some (bup l d h) := by
  unfold spec_l21Up.f
  rw [SpecAlt_ k hk l d h hl hd hh]; rfl

theorem SpecSets_ (k : Nat) (hk : 6 ≤ k) (l d : Int) (hl : -324000 ≤ l ∧ l ≤ 324000) (hd : -324000 ≤ d ∧ d ≤ 324000) : spec_l21Sets.f k l d = some (if bup l d 0 = true then (if bup l d 648000 = true then 3 else 0) else 6) := by
  unfold spec_l21Sets.f
  rw [SpecUp_ k hk l d 0 hl hd (by omega), SpecUp_ k hk l d 648000 hl hd (by omega)]; simp only [Option.bind_some]
  cases bup l d 0 <;> cases bup l d 648000 <;> rfl

theorem SpecWhite_ (k : Nat) (hk : 6 ≤ k) (l d : Int) (hl : -324000 ≤ l ∧ l ≤ 324000) (hd : -324000 ≤ d ∧ d ≤ 324000) : spec_l21White.f k l d = some (bup l d 648000) := by
  unfold spec_l21White.f
  rw [SpecSets_ k hk l d hl hd]; simp only [Option.bind_some]
  cases h : bup l d 648000 with
  | false => cases bup l d 0 <;> rfl
  | true => rw [up_hour l d 0 648000 hl hd (by omega) (by omega) (by omega) h]; rfl

/-- The least latitude, from 0 on, at which a body with a declination does not set. -/
def IsLeast (d m : Int) : Prop := 0 ≤ m ∧ m ≤ 324000 ∧ bup m d 648000 = true ∧ (m = 0 ∨ bup (m - 1) d 648000 = false)
theorem least_one (d m m' : Int) (hd : -84600 ≤ d) (hd2 : d ≤ 84600) (h : IsLeast d m) (h' : IsLeast d m') : m = m' := by
  have key : ∀ m m', IsLeast d m → IsLeast d m' → ¬ m < m' := by
    intro m m' ⟨a0, a1, a2, a3⟩ ⟨b0, b1, b2, b3⟩ hlt
    rcases b3 with b3 | b3
    · omega
    · have := up_lat m (m' - 1) d hd hd2 a0 (by omega) (by omega) a2
      simp_all
  have := key m m' h h'
  have := key m' m h' h
  omega

theorem spec_LatDay_l1 (d : Int) (hd : -84600 ≤ d) (hd2 : d ≤ 84600) : ∀ (n k : Nat) (x : Int), x = n → x ≤ 324000 → bup x d 648000 = true → n + 8 ≤ k → ∃ m, spec_LatitudeForDay.l1 k d x = some (m, 0) ∧ IsLeast d m
  | 0, k, x, hn, h0, hu, hk => by
    obtain ⟨k, rfl⟩ : ∃ m, k = m + 1 := ⟨k - 1, by omega⟩
    simp only [spec_LatitudeForDay.l1]; rw [if_neg (by omega)]
    exact ⟨x, rfl, by omega, by omega, hu, .inl (by omega)⟩
  | n + 1, k, x, hn, h0, hu, hk => by
    obtain ⟨k, rfl⟩ : ∃ m, k = m + 1 := ⟨k - 1, by omega⟩
    simp only [spec_LatitudeForDay.l1]
    rw [if_pos (by omega), w64 (n := x - 1) (by omega) (by omega), SpecWhite_ k (by omega) (x - 1) d (by omega) (by omega)]; simp only [Option.bind_some]
    cases u : bup (x - 1) d 648000 with
    | true => rw [if_pos rfl]; exact spec_LatDay_l1 d hd hd2 n k (x - 1) (by omega) (by omega) u (by omega)
    | false => rw [if_neg (by simp)]; exact ⟨x, rfl, by omega, by omega, hu, .inr u⟩
theorem spec_LatDay_l0 (d : Int) (hd : -84600 ≤ d) (hd2 : d ≤ 84600) : ∀ (n k : Nat) (x : Int), x + 3600 * n = 327600 → 0 ≤ x → n + 324010 ≤ k → (∃ m, spec_LatitudeForDay.l0 k d x = some (m, 0) ∧ IsLeast d m) ∨ (spec_LatitudeForDay.l0 k d x = some (0, 3) ∧ (n = 0 ∨ bup 324000 d 648000 = false))
  | 0, k, x, hn, h0, hk => by
    obtain ⟨k, rfl⟩ : ∃ m, k = m + 1 := ⟨k - 1, by omega⟩
    simp only [spec_LatitudeForDay.l0]; rw [if_neg (by omega)]; exact .inr ⟨rfl, by simp⟩
  | n + 1, k, x, hn, h0, hk => by
    obtain ⟨k, rfl⟩ : ∃ m, k = m + 1 := ⟨k - 1, by omega⟩
    simp only [spec_LatitudeForDay.l0]
    rw [if_pos (by omega), SpecWhite_ k (by omega) x d (by omega) (by omega)]; simp only [Option.bind_some]
    cases u : bup x d 648000 with
    | true => rw [if_pos rfl]; exact .inl (spec_LatDay_l1 d hd hd2 x.toNat k x (by omega) (by omega) u (by omega))
    | false =>
      rw [if_neg (by simp), w64 (by omega) (by omega)]
      rcases spec_LatDay_l0 d hd hd2 n k (x + 3600) (by omega) (by omega) (by omega) with h | ⟨h, h2 | h2⟩
      · exact .inl h
      · refine .inr ⟨h, .inr ?_⟩
        rw [show (324000 : Int) = x by omega]; exact u
      · exact .inr ⟨h, .inr h2⟩
theorem SpecLatDay_ (a : Int) (k : Nat) (hk : 325000 ≤ k) : (0 ≤ a ∧ a ≤ 364 ∧ ∃ m, spec_LatitudeForDay.f k a = some (m, 0) ∧ IsLeast (sd a) m) ∨ (0 ≤ a ∧ a ≤ 364 ∧ spec_LatitudeForDay.f k a = some (0, 3) ∧ bup 324000 (sd a) 648000 = false) ∨ (¬ (0 ≤ a ∧ a ≤ 364) ∧ spec_LatitudeForDay.f k a = some (0, 2)) := by
  unfold spec_LatitudeForDay.f
  rw [In_]; simp only [Option.bind_some, decide_eq_true_eq]
  by_cases h : 0 ≤ a ∧ a ≤ 364
  · have hb := sd_bounds a
    rw [if_pos h, SpecSun21_ k (by omega) a h.1 (by omega)]; simp only [Option.bind_some]
    rcases spec_LatDay_l0 (sd a) hb.1 hb.2 91 k 0 (by omega) (by omega) (by omega) with g | ⟨g, g2 | g2⟩
    · exact .inl ⟨h.1, h.2, g⟩
    · omega
    · exact .inr (.inl ⟨h.1, h.2, g, g2⟩)
  · rw [if_neg h]; exact .inr (.inr ⟨h, rfl⟩)

theorem within_ (a b c : Int) : impl_within.f a b c = some (decide (b ≤ a ∧ a ≤ c)) := by
  unfold impl_within.f
  by_cases h : a ≥ b
  · rw [if_pos h]; simp [show b ≤ a from h]
  · rw [if_neg h]; simp [show ¬ b ≤ a from h]

theorem isDay_ (a : Int) : impl_isDay.f a = some (decide (0 ≤ a ∧ a ≤ 364)) := by
  unfold impl_isDay.f; rw [within_]; rfl

theorem floorDiv_ (a b : Int) (hb : 0 < b) (ha : -4611686018427387904 ≤ a) (ha2 : a ≤ 4611686018427387904) : impl_floorDiv.f a b = some (a / b) := by
  unfold impl_floorDiv.f
  rw [if_neg (by omega)]
  obtain ⟨h1, h2⟩ := ediv_bounds a b 4611686018427387904 hb ha ha2 (by omega)
  have e := floor_eq a b hb
  by_cases c : Int.tmod a b < 0
  · rw [if_pos c] at e ⊢; rw [w64 (n := Int.tdiv a b) (by omega) (by omega), w64 (by omega) (by omega), e]
  · rw [if_neg c] at e ⊢; rw [w64 (by omega) (by omega), e]

theorem nearest_ (a b : Int) (hb : 0 < b) (hb2 : b ≤ 100000000000000000) (ha : -2000000000000000000 ≤ a) (ha2 : a ≤ 2000000000000000000) : impl_nearest.f a b = some (near a b) := by
  unfold impl_nearest.f
  rw [w64 (n := 2 * a) (by omega) (by omega), w64 (n := 2 * a + b) (by omega) (by omega), w64 (n := 2 * b) (by omega) (by omega), floorDiv_ _ _ (by omega) (by omega) (by omega)]
  rfl

theorem around_ (a : Int) (ha : -9223372036854775808 ≤ a) (ha2 : a ≤ 9223372036854775807) : impl_around.f a = some (a % 1296000) := by
  unfold impl_around.f
  have h1 : Int.tmod a 1296000 = if 0 ≤ a then a % 1296000 else -(-a % 1296000) := tmod_eq _ _ (by omega)
  have h2 : -1296000 < Int.tmod a 1296000 ∧ Int.tmod a 1296000 < 1296000 := by rw [h1]; split <;> omega
  rw [w64 (n := Int.tmod a 1296000 + 1296000) (by omega) (by omega), tmod_eq _ _ (by omega), if_pos (by omega), h1]
  split
  · congr 1; omega
  · congr 1; omega

theorem ImplSine_lo (k : Nat) (hk : 1 ≤ k) (x : Int) (h0 : 0 ≤ x) (h1 : x < 648000) : impl_sine.f k x = some (sn0 x) := by
  obtain ⟨k, rfl⟩ : ∃ m, k = m + 1 := ⟨k - 1, by omega⟩
  simp only [impl_sine.f]
  rw [around_ _ (by omega) (by omega)]; simp only [Option.bind_some]
  rw [show x % 1296000 = x by omega, if_neg (by omega), w64 (n := 648000 - x) (by omega) (by omega)]
  have hp := pp_bounds x h0 (by omega)
  rw [show x * (648000 - x) = pp x from rfl, w64 (n := pp x) (by omega) (by omega), w64 (n := 16000000 * pp x) (by omega) (by omega), w64 (n := 4 * pp x) (by omega) (by omega), w64 (n := 2099520000000 - 4 * pp x) (by omega) (by omega), nearest_ _ _ (by omega) (by omega) (by omega) (by omega)]
  rfl

theorem ImplSine_ (k : Nat) (hk : 6 ≤ k) (a : Int) (h0 : -9223372036854775808 ≤ a) (h1 : a ≤ 9223372036854775807) : impl_sine.f k a = some (sn a) := by
  by_cases c : a % 1296000 ≥ 648000
  · obtain ⟨k, rfl⟩ : ∃ m, k = m + 1 := ⟨k - 1, by omega⟩
    simp only [impl_sine.f]
    rw [around_ _ h0 h1]; simp only [Option.bind_some]
    have := sn0_bounds (a % 1296000 - 648000) (by omega) (by omega)
    rw [if_pos c, w64 (n := a % 1296000 - 648000) (by omega) (by omega), ImplSine_lo k (by omega) _ (by omega) (by omega)]
    simp only [Option.bind_some]
    rw [w64 (by omega) (by omega)]; unfold sn; rw [if_pos c]
  · have h := ImplSine_lo k (by omega) (a % 1296000) (by omega) (by omega)
    obtain ⟨k, rfl⟩ : ∃ m, k = m + 1 := ⟨k - 1, by omega⟩
    simp only [impl_sine.f] at h ⊢
    rw [around_ _ (by omega) (by omega)] at h; rw [around_ _ h0 h1]
    rw [show a % 1296000 % 1296000 = a % 1296000 by omega] at h
    unfold sn; rw [if_neg c]; exact h

theorem ImplSun21_ (k : Nat) (hk : 6 ≤ k) (a : Int) (h0 : 0 ≤ a) (h1 : a ≤ 365) : impl_sunDeclination.f k a = some (sd a) := by
  unfold impl_sunDeclination.f
  rw [w64 (n := a - 80) (by omega) (by omega), w64 (n := (a - 80) * 1296000) (by omega) (by omega), floorDiv_ _ _ (by omega) (by omega) (by omega)]; simp only [Option.bind_some]
  rw [ImplSine_ k hk _ (by omega) (by omega)]; simp only [Option.bind_some]
  have := sn_bounds ((a - 80) * 1296000 / 365)
  rw [w64 (n := 84600 * sn ((a - 80) * 1296000 / 365)) (by omega) (by omega), nearest_ _ _ (by omega) (by omega) (by omega) (by omega)]; rfl

theorem ImplCosine_ (k : Nat) (hk : 6 ≤ k) (a : Int) (h0 : -4611686018427387904 ≤ a) (h1 : a ≤ 4611686018427387904) : impl_cosine.f k a = some (cs a) := by
  unfold impl_cosine.f
  rw [w64 (by omega) (by omega), ImplSine_ k hk _ (by omega) (by omega)]; rfl

theorem wrap_ (a : Int) (ha : -4611686018427387904 ≤ a) (ha2 : a ≤ 4611686018427387904) : impl_wrap.f a = some (wr a) := by
  unfold impl_wrap.f wr
  rw [w64 (n := a + 648000) (by omega) (by omega), around_ _ (by omega) (by omega)]
  simp only [Option.bind_some]
  rw [w64 (by omega) (by omega)]

theorem ImplAlt_ (k : Nat) (hk : 6 ≤ k) (l d h : Int) (hl : -324000 ≤ l ∧ l ≤ 324000) (hd : -324000 ≤ d ∧ d ≤ 324000) (hh : -1000000000 ≤ h ∧ h ≤ 1000000000) : impl_altitudeSine.f k l d h = some (alt l d h) := by
  unfold impl_altitudeSine.f impl_cosDistance.f
  have hw := wr_range h
  rw [wrap_ _ (by omega) (by omega)]; simp only [Option.bind_some]
  rw [ImplSine_ k hk _ (by omega) (by omega), ImplSine_ k hk _ (by omega) (by omega), ImplCosine_ k hk _ (by omega) (by omega), ImplCosine_ k hk _ (by omega) (by omega)]; simp only [Option.bind_some]
  rw [w64 (n := wr h - 0) (by omega) (by omega), ImplCosine_ k hk _ (by omega) (by omega), Int.sub_zero]; simp only [Option.bind_some]
  have s1 := sn_bounds l
  have s2 := sn_bounds d
  have c1 := cs_bounds l
  have c2 := cs_bounds d
  have c3 := cs_bounds (wr h)
  have m1 := mul_bounds (sn l) (sn d) 1000000 1000000 (by omega) (by omega) (by omega) (by omega) (by omega) (by omega)
  have m2 := mul_bounds (cs l) (cs d) 1000000 1000000 (by omega) (by omega) (by omega) (by omega) (by omega) (by omega)
  have m3 := mul_bounds (cs l * cs d) (cs (wr h)) 1000000000000 1000000 (by omega) (by omega) (by omega) (by omega) (by omega) (by omega)
  rw [w64 (n := sn l * sn d) (by omega) (by omega), w64 (n := sn l * sn d * 1000000) (by omega) (by omega), w64 (n := cs l * cs d) (by omega) (by omega), w64 (n := cs l * cs d * cs (wr h)) (by omega) (by omega), w64 (n := sn l * sn d * 1000000 + cs l * cs d * cs (wr h)) (by omega) (by omega), floorDiv_ _ _ (by omega) (by omega) (by omega)]; simp only [Option.bind_some]
  rfl

theorem ImplUp_ (k : Nat) (hk : 6 ≤ k) (l d h : Int) (hl : -324000 ≤ l ∧ l ≤ 324000) (hd : -324000 ≤ d ∧ d ≤ 324000) (hh : -1000000000 ≤ h ∧ h ≤ 1000000000) : impl_isUp.f k l d h = some (bup l d h) := by
  unfold impl_isUp.f
  rw [ImplAlt_ k hk l d h hl hd hh]; rfl

theorem ImplNeverSets_ (k : Nat) (hk : 6 ≤ k) (l d : Int) (hl : -324000 ≤ l ∧ l ≤ 324000) (hd : -324000 ≤ d ∧ d ≤ 324000) : impl_neverSets.f k l d = some (bup l d 648000) := by
  unfold impl_neverSets.f
  rw [ImplUp_ k hk l d 648000 hl hd (by omega)]; rfl

theorem impl_LatDay_l0 (d : Int) (hd : -84600 ≤ d) (hd2 : d ≤ 84600) : ∀ (n k : Nat) (a b : Int), b - a = n → 0 ≤ a → b ≤ 324000 → bup b d 648000 = true → (a = 0 ∨ bup (a - 1) d 648000 = false) → n + 8 ≤ k → ∃ m, impl_LatitudeForDay.l0 k d a b = some (m, 0) ∧ IsLeast d m := by
  intro n
  induction n using Nat.strongRecOn with
  | _ n ih =>
    intro k a b hn h0 hb hu ha hk
    obtain ⟨k, rfl⟩ : ∃ m, k = m + 1 := ⟨k - 1, by omega⟩
    simp only [impl_LatitudeForDay.l0]
    by_cases c : a < b
    · rw [if_pos c, w64 (n := a + b) (by omega) (by omega), Int.tdiv_eq_ediv_of_nonneg (by omega), w64 (n := (a + b) / 2) (by omega) (by omega), ImplNeverSets_ k (by omega) ((a + b) / 2) d (by omega) (by omega)]; simp only [Option.bind_some]
      cases u : bup ((a + b) / 2) d 648000 with
      | true => rw [if_pos rfl]; exact ih ((a + b) / 2 - a).toNat (by omega) k _ _ (by omega) h0 (by omega) u ha (by omega)
      | false =>
        rw [if_neg (by simp), w64 (n := (a + b) / 2 + 1) (by omega) (by omega)]
        exact ih (b - ((a + b) / 2 + 1)).toNat (by omega) k _ _ (by omega) (by omega) hb hu (.inr (by rw [show (a + b) / 2 + 1 - 1 = (a + b) / 2 by omega]; exact u)) (by omega)
    · rw [if_neg c]
      have e : a = b := by omega
      subst e
      exact ⟨a, rfl, h0, hb, hu, ha⟩
theorem ImplLatDay_ (a : Int) (k : Nat) (hk : 325000 ≤ k) : (0 ≤ a ∧ a ≤ 364 ∧ ∃ m, impl_LatitudeForDay.f k a = some (m, 0) ∧ IsLeast (sd a) m) ∨ (0 ≤ a ∧ a ≤ 364 ∧ impl_LatitudeForDay.f k a = some (0, 3) ∧ bup 324000 (sd a) 648000 = false) ∨ (¬ (0 ≤ a ∧ a ≤ 364) ∧ impl_LatitudeForDay.f k a = some (0, 2)) := by
  unfold impl_LatitudeForDay.f
  rw [isDay_]; simp only [Option.bind_some, decide_eq_true_eq]
  by_cases h : 0 ≤ a ∧ a ≤ 364
  · have hb := sd_bounds a
    rw [if_pos h, ImplSun21_ k (by omega) a h.1 (by omega)]; simp only [Option.bind_some]
    rw [ImplNeverSets_ k (by omega) 324000 (sd a) (by omega) (by omega)]; simp only [Option.bind_some]
    cases u : bup 324000 (sd a) 648000 with
    | true =>
      rw [if_pos rfl]
      exact .inl ⟨h.1, h.2, impl_LatDay_l0 (sd a) hb.1 hb.2 324000 k 0 324000 (by omega) (by omega) (by omega) u (.inl rfl) (by omega)⟩
    | false => rw [if_neg (by simp)]; exact .inr (.inl ⟨h.1, h.2, rfl, rfl⟩)
  · rw [if_neg h]; exact .inr (.inr ⟨h, rfl⟩)

theorem FnExactLatitudeForDay : laws_FnExactLatitudeForDay.Pure := by
  intro a ha
  refine ⟨325000, ?_⟩
  unfold laws_FnExactLatitudeForDay.f
  have hb := sd_bounds a
  rcases SpecLatDay_ a 325000 (by omega) with ⟨h1, h2, m, h3, h4⟩ | ⟨h1, h2, h3, h4⟩ | ⟨h1, h3⟩
  · rcases ImplLatDay_ a 325000 (by omega) with ⟨g1, g2, m', g3, g4⟩ | ⟨g1, g2, g3, g4⟩ | ⟨g1, g3⟩
    · obtain rfl := least_one (sd a) m m' hb.1 hb.2 h4 g4
      exact law2 h3 g3
    · exfalso
      have := up_lat m 324000 (sd a) hb.1 hb.2 h4.1 h4.2.1 (by omega) h4.2.2.1
      simp_all
    · exact absurd ⟨h1, h2⟩ g1
  · rcases ImplLatDay_ a 325000 (by omega) with ⟨g1, g2, m', g3, g4⟩ | ⟨g1, g2, g3, g4⟩ | ⟨g1, g3⟩
    · exfalso
      have := up_lat m' 324000 (sd a) hb.1 hb.2 g4.1 g4.2.1 (by omega) g4.2.2.1
      simp_all
    · exact law2 h3 g3
    · exact absurd ⟨h1, h2⟩ g1
  · rcases ImplLatDay_ a 325000 (by omega) with ⟨g1, g2, m', g3, g4⟩ | ⟨g1, g2, g3, g4⟩ | ⟨g1, g3⟩
    · exact absurd ⟨g1, g2⟩ h1
    · exact absurd ⟨g1, g2⟩ h1
    · exact law2 h3 g3

end Go.Proofs.Ytibbbeidbapfeaa.Pure
