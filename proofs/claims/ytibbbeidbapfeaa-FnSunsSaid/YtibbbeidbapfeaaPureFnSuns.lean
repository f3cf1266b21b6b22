/- At all drawn latitudes and days the sun is up no longer than on the longest day, and white nights begin at the told latitude. No condition. -/
import Derived.Test.YtibbbeidbapfeaaQFnSunsx5
import Derived.Test.YtibbbeidbapfeaaBase
import Derived.Test.YtibbbeidbapfeaaSky
namespace Go.Proofs.Ytibbbeidbapfeaa.Pure
open Go Go.RowKit Go.Proofs.Ytibbbeidbapfeaa.QFnSuns Go.Proofs.YtibbbeidbapfeaaW.PrintWords Go.Proofs.YtibbbeidbapfeaaW.PrintLast Go.Proofs.YtibbbeidbapfeaaW.PrintMore Go.Proofs.Ytibbbeidbapfeaa.Base
set_option linter.unusedVariables false
set_option linter.unusedSimpArgs false

theorem within_ (a b c : Int) : impl_within.f a b c = some (decide (b ≤ a ∧ a ≤ c)) := by
  unfold impl_within.f
  by_cases h : a ≥ b
  · rw [if_pos h]; simp [show b ≤ a from h]
  · rw [if_neg h]; simp [show ¬ b ≤ a from h]

theorem isDay_ (a : Int) : impl_isDay.f a = some (decide (0 ≤ a ∧ a ≤ 364)) := by
  unfold impl_isDay.f; rw [within_]; rfl

theorem floorDiv_ (a b : Int) (hb : 0 < b) (ha : -4611686018427387904 ≤ a) (ha2 : a ≤ 4611686018427387904) : impl_floorDiv.f a b = some (a / b) := by
  unfold impl_floorDiv.f
  rw [if_neg (by omega)]
  obtain ⟨h1, h2⟩ := ediv_bounds a b 4611686018427387904 hb ha ha2 (by omega)
  have e := floor_eq a b hb
  by_cases c : Int.tmod a b < 0
  · rw [if_pos c] at e ⊢; rw [w64 (n := Int.tdiv a b) (by omega) (by omega), w64 (by omega) (by omega), e]
  · rw [if_neg c] at e ⊢; rw [w64 (by omega) (by omega), e]

theorem nearest_ (a b : Int) (hb : 0 < b) (hb2 : b ≤ 100000000000000000) (ha : -2000000000000000000 ≤ a) (ha2 : a ≤ 2000000000000000000) : impl_nearest.f a b = some (near a b) := by
  unfold impl_nearest.f
  rw [w64 (n := 2 * a) (by omega) (by omega), w64 (n := 2 * a + b) (by omega) (by omega), w64 (n := 2 * b) (by omega) (by omega), floorDiv_ _ _ (by omega) (by omega) (by omega)]
  rfl

theorem around_ (a : Int) (ha : -9223372036854775808 ≤ a) (ha2 : a ≤ 9223372036854775807) : impl_around.f a = some (a % 1296000) := by
  unfold impl_around.f
  have h1 : Int.tmod a 1296000 = if 0 ≤ a then a % 1296000 else -(-a % 1296000) := tmod_eq _ _ (by omega)
  have h2 : -1296000 < Int.tmod a 1296000 ∧ Int.tmod a 1296000 < 1296000 := by rw [h1]; split <;> omega
  rw [w64 (n := Int.tmod a 1296000 + 1296000) (by omega) (by omega), tmod_eq _ _ (by omega), if_pos (by omega), h1]
  split
  · congr 1; omega
  · congr 1; omega

theorem ImplSine_lo (k : Nat) (hk : 1 ≤ k) (x : Int) (h0 : 0 ≤ x) (h1 : x < 648000) : impl_sine.f k x = some (sn0 x) := by
  obtain ⟨k, rfl⟩ : ∃ m, k = m + 1 := ⟨k - 1, by omega⟩
  simp only [impl_sine.f]
  rw [around_ _ (by omega) (by omega)]; simp only [Option.bind_some]
  rw [show x % 1296000 = x by omega, if_neg (by omega), w64 (n := 648000 - x) (by omega) (by omega)]
  have hp := pp_bounds x h0 (by omega)
  rw [show x * (648000 - x) = pp x from rfl, w64 (n := pp x) (by omega) (by omega), w64 (n := 16000000 * pp x) (by omega) (by omega), w64 (n := 4 * pp x) (by omega) (by omega), w64 (n := 2099520000000 - 4 * pp x) (by omega) (by omega), nearest_ _ _ (by omega) (by omega) (by omega) (by omega)]
  rfl

theorem ImplSine_ (k : Nat) (hk : 6 ≤ k) (a : Int) (h0 : -9223372036854775808 ≤ a) (h1 : a ≤ 9223372036854775807) : impl_sine.f k a = some (sn a) := by
  by_cases c : a % 1296000 ≥ 648000
  · obtain ⟨k, rfl⟩ : ∃ m, k = m + 1 := ⟨k - 1, by omega⟩
    simp only [impl_sine.f]
    rw [around_ _ h0 h1]; simp only [Option.bind_some]
    have := sn0_bounds (a % 1296000 - 648000) (by omega) (by omega)
    rw [if_pos c, w64 (n := a % 1296000 - 648000) (by omega) (by omega), ImplSine_lo k (by omega) _ (by omega) (by omega)]
    simp only [Option.bind_some]
    rw [w64 (by omega) (by omega)]; unfold sn; rw [if_pos c]
  · have h := ImplSine_lo k (by omega) (a % 1296000) (by omega) (by omega)
    obtain ⟨k, rfl⟩ : ∃ m, k = m + 1 := ⟨k - 1, by omega⟩
    simp only [impl_sine.f] at h ⊢
    rw [around_ _ (by omega) (by omega)] at h; rw [around_ _ h0 h1]
    rw [show a % 1296000 % 1296000 = a % 1296000 by omega] at h
    unfold sn; rw [if_neg c]; exact h

theorem ImplSun21_ (k : Nat) (hk : 6 ≤ k) (a : Int) (h0 : 0 ≤ a) (h1 : a ≤ 365) : impl_sunDeclination.f k a = some (sd a) := by
  unfold impl_sunDeclination.f
  rw [w64 (n := a - 80) (by omega) (by omega), w64 (n := (a - 80) * 1296000) (by omega) (by omega), floorDiv_ _ _ (by omega) (by omega) (by omega)]; simp only [Option.bind_some]
  rw [ImplSine_ k hk _ (by omega) (by omega)]; simp only [Option.bind_some]
  have := sn_bounds ((a - 80) * 1296000 / 365)
  rw [w64 (n := 84600 * sn ((a - 80) * 1296000 / 365)) (by omega) (by omega), nearest_ _ _ (by omega) (by omega) (by omega) (by omega)]; rfl

theorem ImplSunDecl_ (a : Int) (k : Nat) (hk : 6 ≤ k) : impl_SunDeclination.f k a = some (if 0 ≤ a ∧ a ≤ 364 then (sd a, 0) else (0, 2)) := by
  unfold impl_SunDeclination.f
  rw [isDay_]; simp only [Option.bind_some, decide_eq_true_eq]
  by_cases h : 0 ≤ a ∧ a ≤ 364
  · rw [if_pos h, if_pos h, ImplSun21_ k hk a h.1 (by omega)]; rfl
  · rw [if_neg h, if_neg h]

theorem isLat_ (a : Int) : impl_isLat.f a = some (decide (-324000 ≤ a ∧ a ≤ 324000)) := by
  unfold impl_isLat.f; rw [within_]; rfl

theorem ImplCosine_ (k : Nat) (hk : 6 ≤ k) (a : Int) (h0 : -4611686018427387904 ≤ a) (h1 : a ≤ 4611686018427387904) : impl_cosine.f k a = some (cs a) := by
  unfold impl_cosine.f
  rw [w64 (by omega) (by omega), ImplSine_ k hk _ (by omega) (by omega)]; rfl

theorem wrap_ (a : Int) (ha : -4611686018427387904 ≤ a) (ha2 : a ≤ 4611686018427387904) : impl_wrap.f a = some (wr a) := by
  unfold impl_wrap.f wr
  rw [w64 (n := a + 648000) (by omega) (by omega), around_ _ (by omega) (by omega)]
  simp only [Option.bind_some]
  rw [w64 (by omega) (by omega)]

theorem ImplAlt_ (k : Nat) (hk : 6 ≤ k) (l d h : Int) (hl : -324000 ≤ l ∧ l ≤ 324000) (hd : -324000 ≤ d ∧ d ≤ 324000) (hh : -1000000000 ≤ h ∧ h ≤ 1000000000) : impl_altitudeSine.f k l d h = some (alt l d h) := by
  unfold impl_altitudeSine.f impl_cosDistance.f
  have hw := wr_range h
  rw [wrap_ _ (by omega) (by omega)]; simp only [Option.bind_some]
  rw [ImplSine_ k hk _ (by omega) (by omega), ImplSine_ k hk _ (by omega) (by omega), ImplCosine_ k hk _ (by omega) (by omega), ImplCosine_ k hk _ (by omega) (by omega)]; simp only [Option.bind_some]
  rw [w64 (n := wr h - 0) (by omega) (by omega), ImplCosine_ k hk _ (by omega) (by omega), Int.sub_zero]; simp only [Option.bind_some]
  have s1 := sn_bounds l
  have s2 := sn_bounds d
  have c1 := cs_bounds l
  have c2 := cs_bounds d
  have c3 := cs_bounds (wr h)
  have m1 := mul_bounds (sn l) (sn d) 1000000 1000000 (by omega) (by omega) (by omega) (by omega) (by omega) (by omega)
  have m2 := mul_bounds (cs l) (cs d) 1000000 1000000 (by omega) (by omega) (by omega) (by omega) (by omega) (by omega)
  have m3 := mul_bounds (cs l * cs d) (cs (wr h)) 1000000000000 1000000 (by omega) (by omega) (by omega) (by omega) (by omega) (by omega)
  rw [w64 (n := sn l * sn d) (by omega) (by omega), w64 (n := sn l * sn d * 1000000) (by omega) (by omega), w64 (n := cs l * cs d) (by omega) (by omega), w64 (n := cs l * cs d * cs (wr h)) (by omega) (by omega), w64 (n := sn l * sn d * 1000000 + cs l * cs d * cs (wr h)) (by omega) (by omega), floorDiv_ _ _ (by omega) (by omega) (by omega)]; simp only [Option.bind_some]
  rfl

theorem ImplUp_ (k : Nat) (hk : 6 ≤ k) (l d h : Int) (hl : -324000 ≤ l ∧ l ≤ 324000) (hd : -324000 ≤ d ∧ d ≤ 324000) (hh : -1000000000 ≤ h ∧ h ≤ 1000000000) : impl_isUp.f k l d h = some (bup l d h) := by
  unfold impl_isUp.f
  rw [ImplAlt_ k hk l d h hl hd hh]; rfl

theorem ImplNeverRises_ (k : Nat) (hk : 6 ≤ k) (l d : Int) (hl : -324000 ≤ l ∧ l ≤ 324000) (hd : -324000 ≤ d ∧ d ≤ 324000) : impl_neverRises.f k l d = some (!bup l d 0) := by
  unfold impl_neverRises.f
  rw [ImplUp_ k hk l d 0 hl hd (by omega)]; rfl

theorem ImplNeverSets_ (k : Nat) (hk : 6 ≤ k) (l d : Int) (hl : -324000 ≤ l ∧ l ≤ 324000) (hd : -324000 ≤ d ∧ d ≤ 324000) : impl_neverSets.f k l d = some (bup l d 648000) := by
  unfold impl_neverSets.f
  rw [ImplUp_ k hk l d 648000 hl hd (by omega)]; rfl

theorem impl_Setting_l (l d s : Int) (hl : -324000 ≤ l ∧ l ≤ 324000) (hd : -324000 ≤ d ∧ d ≤ 324000) (hs : 1 ≤ s) (hs2 : s ≤ 648000) : ∀ (n k : Nat) (a b : Int), b - a = n → 0 ≤ a → a ≤ b → b ≤ 648000 / s → (a = 0 ∨ bup l d ((a - 1) * s) = true) → (b < 648000 / s → bup l d (b * s) = false) → n + 7 ≤ k → impl_settingHour.l0 k l d s a b = some (setm l d s * s) := by
  have hN : 648000 / s * s ≤ 648000 := Int.ediv_mul_le _ (by omega)
  have hN2 : 648000 / s ≤ 648000 := Int.ediv_le_self _ (by omega)
  have hmul : ∀ x y : Int, x ≤ y → x * s ≤ y * s := fun x y h => Int.mul_le_mul_of_nonneg_right h (by omega)
  intro n
  induction n using Nat.strongRecOn with
  | _ n ih =>
    intro k a b hn h0 hab hb ha hbf hk
    obtain ⟨k, rfl⟩ : ∃ m, k = m + 1 := ⟨k - 1, by omega⟩
    simp only [impl_settingHour.l0]
    have hbs := hmul b (648000 / s) hb
    have hb0 : 0 ≤ b * s := Int.mul_nonneg (by omega) (by omega)
    by_cases c : a < b
    · rw [if_pos c, w64 (n := a + b) (by omega) (by omega), Int.tdiv_eq_ediv_of_nonneg (by omega), w64 (n := (a + b) / 2) (by omega) (by omega)]
      have hms := hmul ((a + b) / 2) b (by omega)
      have hm0 : 0 ≤ (a + b) / 2 * s := Int.mul_nonneg (by omega) (by omega)
      rw [w64 (n := (a + b) / 2 * s) (by omega) (by omega), ImplUp_ k (by omega) l d _ hl hd (by omega)]; simp only [Option.bind_some]
      cases hu : bup l d ((a + b) / 2 * s) with
      | true =>
        rw [if_pos rfl, w64 (n := (a + b) / 2 + 1) (by omega) (by omega)]
        exact ih (b - ((a + b) / 2 + 1)).toNat (by omega) k _ _ (by omega) (by omega) (by omega) hb (.inr (by rw [show (a + b) / 2 + 1 - 1 = (a + b) / 2 by omega]; exact hu)) hbf (by omega)
      | false =>
        rw [if_neg (by simp)]
        exact ih ((a + b) / 2 - a).toNat (by omega) k _ _ (by omega) h0 (by omega) (by omega) ha (fun _ => hu) (by omega)
    · have e : a = b := by omega
      subst e
      rw [if_neg c, w64 (by omega) (by omega)]
      congr 2
      symm
      refine setm_is l d s a hs (by omega) hb (fun j hj hj2 => ?_) hbf
      rcases ha with ha | ha
      · omega
      · have := hmul j (a - 1) (by omega)
        have := hmul (a - 1) a (by omega)
        exact up_hour l d (j * s) ((a - 1) * s) hl hd (Int.mul_nonneg hj (by omega)) (by omega) (by omega) ha

theorem ImplSetting_ (l d s : Int) (hl : -324000 ≤ l ∧ l ≤ 324000) (hd : -324000 ≤ d ∧ d ≤ 324000) (hs : 1 ≤ s) (hs2 : s ≤ 648000) (k : Nat) (hk : 648010 ≤ k) : impl_settingHour.f k l d s = some (setm l d s * s) := by
  unfold impl_settingHour.f
  have hN2 : 648000 / s ≤ 648000 := Int.ediv_le_self _ (by omega)
  have hN3 : 1 ≤ 648000 / s := Int.le_ediv_of_mul_le (by omega) (by omega)
  rw [if_neg (by omega), Int.tdiv_eq_ediv_of_nonneg (by omega), w64 (by omega) (by omega)]
  exact impl_Setting_l l d s hl hd hs hs2 (648000 / s).toNat k 0 _ (by omega) (by omega) (by omega) (by omega) (.inl rfl) (fun h => by omega) (by omega)

theorem ImplAngle_ (l d : Int) (hl : -324000 ≤ l ∧ l ≤ 324000) (hd : -324000 ≤ d ∧ d ≤ 324000) (k : Nat) (hk : 648010 ≤ k) : impl_upAngle.f k l d = some (ang l d) := by
  unfold impl_upAngle.f ang
  rw [ImplNeverRises_ k (by omega) l d hl hd, ImplNeverSets_ k (by omega) l d hl hd, ImplSetting_ l d 1 hl hd (by omega) (by omega) k hk]; simp only [Option.bind_some]
  have := setm_bounds l d 1 (by omega)
  rw [Int.mul_one, w64 (n := 2 * setm l d 1) (by omega) (by omega)]
  cases bup l d 0 <;> cases bup l d 648000 <;> rfl

theorem impl_Longest_l (l : Int) (hl : -324000 ≤ l ∧ l ≤ 324000) : ∀ (n k : Nat) (i b m : Int), 365 - i = n → 0 ≤ i → n + 648011 ≤ k → impl_LongestDay.l0 k l b m i = some ((lday (fun t => ang l (sd t)) n i b m).1, (lday (fun t => ang l (sd t)) n i b m).2, 0)
  | 0, k, i, b, m, hn, h0, hk => by
    obtain ⟨k, rfl⟩ : ∃ m, k = m + 1 := ⟨k - 1, by omega⟩
    simp only [impl_LongestDay.l0]; rw [if_neg (by omega)]; rfl
  | n + 1, k, i, b, m, hn, h0, hk => by
    obtain ⟨k, rfl⟩ : ∃ m, k = m + 1 := ⟨k - 1, by omega⟩
    simp only [impl_LongestDay.l0]
    have := sd_bounds i
    rw [if_pos (by omega), ImplSun21_ k (by omega) i h0 (by omega)]; simp only [Option.bind_some]
    rw [ImplAngle_ l (sd i) hl (by omega) k (by omega)]; simp only [Option.bind_some, lday]
    rw [w64 (by omega) (by omega)]
    by_cases c : ang l (sd i) > m
    · rw [if_pos c, if_pos c]; exact impl_Longest_l l hl n k (i + 1) _ _ (by omega) (by omega) (by omega)
    · rw [if_neg c, if_neg c]; exact impl_Longest_l l hl n k (i + 1) _ _ (by omega) (by omega) (by omega)
theorem ImplLongest_ (l : Int) (k : Nat) (hk : 648400 ≤ k) : impl_LongestDay.f k l = some (if -324000 ≤ l ∧ l ≤ 324000 then ((lday (fun t => ang l (sd t)) 365 0 0 (-1)).1, (lday (fun t => ang l (sd t)) 365 0 0 (-1)).2, 0) else (0, 0, 2)) := by
  unfold impl_LongestDay.f
  rw [isLat_]; simp only [Option.bind_some, decide_eq_true_eq]
  by_cases h : -324000 ≤ l ∧ l ≤ 324000
  · rw [if_pos h, if_pos h]; exact impl_Longest_l l h 365 k 0 0 (-1) (by omega) (by omega) (by omega)
  · rw [if_neg h, if_neg h]

theorem ImplUpAngle_ (l d : Int) (k : Nat) (hk : 648010 ≤ k) : impl_UpAngle.f k l d = some (if (-324000 ≤ l ∧ l ≤ 324000) ∧ (-324000 ≤ d ∧ d ≤ 324000) then (ang l d, 0) else (0, 2)) := by
  unfold impl_UpAngle.f
  rw [isLat_, isLat_]; simp only [Option.bind_some, decide_eq_true_eq]
  by_cases h1 : -324000 ≤ l ∧ l ≤ 324000
  · by_cases h2 : -324000 ≤ d ∧ d ≤ 324000
    · rw [if_pos h1, if_pos h2, if_pos ⟨h1, h2⟩, ImplAngle_ l d h1 h2 k hk]; rfl
    · rw [if_pos h1, if_neg h2, if_neg (by omega)]
  · rw [if_neg h1, if_neg (by omega)]

theorem impl_Nights_l (l : Int) (hl : -324000 ≤ l ∧ l ≤ 324000) : ∀ (n k : Nat) (i c : Int), 365 - i = n → 0 ≤ i → 0 ≤ c → c ≤ i → n + 8 ≤ k → impl_WhiteNights.l0 k l c i = some (howoft (fun t => bup l (sd t) 648000) n i c, 0)
  | 0, k, i, c, hn, h0, hc, hc2, hk => by
    obtain ⟨k, rfl⟩ : ∃ m, k = m + 1 := ⟨k - 1, by omega⟩
    simp only [impl_WhiteNights.l0]; rw [if_neg (by omega)]; rfl
  | n + 1, k, i, c, hn, h0, hc, hc2, hk => by
    obtain ⟨k, rfl⟩ : ∃ m, k = m + 1 := ⟨k - 1, by omega⟩
    simp only [impl_WhiteNights.l0]
    have := sd_bounds i
    rw [if_pos (by omega), ImplSun21_ k (by omega) i h0 (by omega)]; simp only [Option.bind_some]
    rw [ImplNeverSets_ k (by omega) l (sd i) hl (by omega)]; simp only [Option.bind_some, howoft]
    rw [w64 (n := i + 1) (by omega) (by omega), w64 (n := c + 1) (by omega) (by omega)]
    by_cases u : bup l (sd i) 648000 = true
    · rw [if_pos u, if_pos u]; exact impl_Nights_l l hl n k (i + 1) _ (by omega) (by omega) (by omega) (by omega) (by omega)
    · rw [if_neg u, if_neg u]; exact impl_Nights_l l hl n k (i + 1) _ (by omega) (by omega) (by omega) (by omega) (by omega)
theorem ImplNights_ (l : Int) (k : Nat) (hk : 400 ≤ k) : impl_WhiteNights.f k l = some (if -324000 ≤ l ∧ l ≤ 324000 then (howoft (fun t => bup l (sd t) 648000) 365 0 0, 0) else (0, 2)) := by
  unfold impl_WhiteNights.f
  rw [isLat_]; simp only [Option.bind_some, decide_eq_true_eq]
  by_cases h : -324000 ≤ l ∧ l ≤ 324000
  · rw [if_pos h, if_pos h]; exact impl_Nights_l l h 365 k 0 0 (by omega) (by omega) (by omega) (by omega) (by omega)
  · rw [if_neg h, if_neg h]

theorem In_ (a b c : Int) : spec_l00In.f a b c = some (decide (b ≤ a ∧ a ≤ c)) := by
  unfold spec_l00In.f
  by_cases h : a ≥ b
  · rw [if_pos h]; simp [show b ≤ a from h]
  · rw [if_neg h]; simp [show ¬ b ≤ a from h]

theorem Floor_ (a b : Int) (hb : 0 < b) (ha : -4611686018427387904 ≤ a) (ha2 : a ≤ 4611686018427387904) : spec_l00Floor.f a b = some (a / b) := by
  unfold spec_l00Floor.f
  rw [if_neg (by omega)]
  obtain ⟨h1, h2⟩ := ediv_bounds a b 4611686018427387904 hb ha ha2 (by omega)
  have e := floor_eq a b hb
  by_cases c : Int.tmod a b < 0
  · rw [if_pos c] at e ⊢; rw [w64 (n := Int.tdiv a b) (by omega) (by omega), w64 (by omega) (by omega), e]
  · rw [if_neg c] at e ⊢; rw [w64 (by omega) (by omega), e]

theorem Round_ (a b : Int) (hb : 0 < b) (hb2 : b ≤ 100000000000000000) (ha : -2000000000000000000 ≤ a) (ha2 : a ≤ 2000000000000000000) : spec_l00Round.f a b = some (near a b) := by
  unfold spec_l00Round.f
  rw [w64 (n := 2 * a) (by omega) (by omega), w64 (n := 2 * a + b) (by omega) (by omega), w64 (n := 2 * b) (by omega) (by omega), Floor_ _ _ (by omega) (by omega) (by omega)]
  rfl

theorem SpecSine_lo (k : Nat) (hk : 2 ≤ k) (x : Int) (h0 : 0 ≤ x) (h1 : x ≤ 648000) : spec_l03Sine.f k x = some (sn0 x) := by
  obtain ⟨k, rfl⟩ : ∃ m, k = m + 2 := ⟨k - 2, by omega⟩
  have tm : Int.tmod x 1296000 = x := by rw [tmod_eq _ _ (by omega), if_pos h0]; omega
  simp only [spec_l03Sine.f]
  rw [tm, if_neg (by omega)]
  simp only [spec_l03Sine.j0]
  rw [if_neg (by omega), w64 (n := 648000 - x) (by omega) (by omega)]
  have hp := pp_bounds x h0 h1
  rw [show x * (648000 - x) = pp x from rfl, w64 (n := pp x) (by omega) (by omega), w64 (n := 16 * pp x) (by omega) (by omega), w64 (n := 16 * pp x * 1000000) (by omega) (by omega), w64 (n := 5 * 648000) (by omega) (by omega), w64 (n := 5 * 648000 * 648000) (by omega) (by omega), w64 (n := 4 * pp x) (by omega) (by omega), w64 (n := 5 * 648000 * 648000 - 4 * pp x) (by omega) (by omega), Round_ _ _ (by omega) (by omega) (by omega) (by omega)]
  simp only [Option.bind_some]
  unfold sn0 sp
  rw [show 16 * pp x * 1000000 = 16000000 * pp x by omega, show 5 * 648000 * 648000 - 4 * pp x = 2099520000000 - 4 * pp x by omega]

theorem SpecSine_j (k : Nat) (hk : 3 ≤ k) (x : Int) (h0 : 0 ≤ x) (h1 : x < 1296000) : spec_l03Sine.j0 k 648000 x = some (if x ≥ 648000 then -(sn0 (x - 648000)) else sn0 x) := by
  by_cases c : x > 648000
  · obtain ⟨k, rfl⟩ : ∃ m, k = m + 1 := ⟨k - 1, by omega⟩
    simp only [spec_l03Sine.j0]
    have := sn0_bounds (x - 648000) (by omega) (by omega)
    rw [if_pos c, w64 (n := x - 648000) (by omega) (by omega), SpecSine_lo k (by omega) _ (by omega) (by omega)]
    simp only [Option.bind_some]
    rw [w64 (by omega) (by omega), if_pos (by omega)]
  · have h := SpecSine_lo (k + 1) (by omega) x h0 (by omega)
    have tm : Int.tmod x 1296000 = x := by rw [tmod_eq _ _ (by omega), if_pos h0]; omega
    simp only [spec_l03Sine.f] at h
    rw [tm, if_neg (by omega)] at h
    rw [h]
    by_cases e : x = 648000
    · subst e; decide
    · rw [if_neg (by omega)]

theorem SpecSine_ (k : Nat) (hk : 6 ≤ k) (a : Int) : spec_l03Sine.f k a = some (sn a) := by
  obtain ⟨k, rfl⟩ : ∃ m, k = m + 1 := ⟨k - 1, by omega⟩
  simp only [spec_l03Sine.f]
  have tm := tmod_eq a 1296000 (by omega)
  by_cases c : Int.tmod a 1296000 < 0
  · have e : Int.tmod a 1296000 + 1296000 = a % 1296000 := by rw [tm] at c ⊢; split at c <;> omega
    rw [if_pos c, e, w64 (by omega) (by omega), SpecSine_j k (by omega) _ (by omega) (by omega)]; rfl
  · have e : Int.tmod a 1296000 = a % 1296000 := by rw [tm] at c ⊢; split at c <;> omega
    rw [if_neg c, e, SpecSine_j k (by omega) _ (by omega) (by omega)]; rfl

theorem SpecSun21_ (k : Nat) (hk : 6 ≤ k) (a : Int) (h0 : 0 ≤ a) (h1 : a ≤ 365) : spec_l21Sun.f k a = some (sd a) := by
  unfold spec_l21Sun.f
  rw [w64 (n := a - 80) (by omega) (by omega), w64 (n := (a - 80) * 1296000) (by omega) (by omega), Floor_ _ _ (by omega) (by omega) (by omega)]; simp only [Option.bind_some]
  rw [SpecSine_ k hk]; simp only [Option.bind_some]
  have := sn_bounds ((a - 80) * 1296000 / 365)
  rw [w64 (n := 84600 * sn ((a - 80) * 1296000 / 365)) (by omega) (by omega), Round_ _ _ (by omega) (by omega) (by omega) (by omega)]; rfl

theorem SpecSunDecl_ (a : Int) (k : Nat) (hk : 6 ≤ k) : spec_SunDeclination.f k a = some (if 0 ≤ a ∧ a ≤ 364 then (sd a, 0) else (0, 2)) := by
  unfold spec_SunDeclination.f
  rw [In_]; simp only [Option.bind_some, decide_eq_true_eq]
  by_cases h : 0 ≤ a ∧ a ≤ 364
  · rw [if_pos h, if_pos h, SpecSun21_ k hk a h.1 (by omega)]; rfl
  · rw [if_neg h, if_neg h]

/-- The least latitude, from 0 on, at which a body with a declination does not set. -/
def IsLeast (d m : Int) : Prop := 0 ≤ m ∧ m ≤ 324000 ∧ bup m d 648000 = true ∧ (m = 0 ∨ bup (m - 1) d 648000 = false)
theorem least_one (d m m' : Int) (hd : -84600 ≤ d) (hd2 : d ≤ 84600) (h : IsLeast d m) (h' : IsLeast d m') : m = m' := by
  have key : ∀ m m', IsLeast d m → IsLeast d m' → ¬ m < m' := by
    intro m m' ⟨a0, a1, a2, a3⟩ ⟨b0, b1, b2, b3⟩ hlt
    rcases b3 with b3 | b3
    · omega
    · have := up_lat m (m' - 1) d hd hd2 a0 (by omega) (by omega) a2
      simp_all
  have := key m m' h h'
  have := key m' m h' h
  omega

theorem impl_LatDay_l0 (d : Int) (hd : -84600 ≤ d) (hd2 : d ≤ 84600) : ∀ (n k : Nat) (a b : Int), b - a = n → 0 ≤ a → b ≤ 324000 → bup b d 648000 = true → (a = 0 ∨ bup (a - 1) d 648000 = false) → n + 8 ≤ k → ∃ m, impl_LatitudeForDay.l0 k d a b = some (m, 0) ∧ IsLeast d m := by
  intro n
  induction n using Nat.strongRecOn with
  | _ n ih =>
    intro k a b hn h0 hb hu ha hk
    obtain ⟨k, rfl⟩ : ∃ m, k = m + 1 := ⟨k - 1, by omega⟩
    simp only [impl_LatitudeForDay.l0]
    by_cases c : a < b
    · rw [if_pos c, w64 (n := a + b) (by omega) (by omega), Int.tdiv_eq_ediv_of_nonneg (by omega), w64 (n := (a + b) / 2) (by omega) (by omega), ImplNeverSets_ k (by omega) ((a + b) / 2) d (by omega) (by omega)]; simp only [Option.bind_some]
      cases u : bup ((a + b) / 2) d 648000 with
      | true => rw [if_pos rfl]; exact ih ((a + b) / 2 - a).toNat (by omega) k _ _ (by omega) h0 (by omega) u ha (by omega)
      | false =>
        rw [if_neg (by simp), w64 (n := (a + b) / 2 + 1) (by omega) (by omega)]
        exact ih (b - ((a + b) / 2 + 1)).toNat (by omega) k _ _ (by omega) (by omega) hb hu (.inr (by rw [show (a + b) / 2 + 1 - 1 = (a + b) / 2 by omega]; exact u)) (by omega)
    · rw [if_neg c]
      have e : a = b := by omega
      subst e
      exact ⟨a, rfl, h0, hb, hu, ha⟩
theorem ImplLatDay_ (a : Int) (k : Nat) (hk : 325000 ≤ k) : (0 ≤ a ∧ a ≤ 364 ∧ ∃ m, impl_LatitudeForDay.f k a = some (m, 0) ∧ IsLeast (sd a) m) ∨ (0 ≤ a ∧ a ≤ 364 ∧ impl_LatitudeForDay.f k a = some (0, 3) ∧ bup 324000 (sd a) 648000 = false) ∨ (¬ (0 ≤ a ∧ a ≤ 364) ∧ impl_LatitudeForDay.f k a = some (0, 2)) := by
  unfold impl_LatitudeForDay.f
  rw [isDay_]; simp only [Option.bind_some, decide_eq_true_eq]
  by_cases h : 0 ≤ a ∧ a ≤ 364
  · have hb := sd_bounds a
    rw [if_pos h, ImplSun21_ k (by omega) a h.1 (by omega)]; simp only [Option.bind_some]
    rw [ImplNeverSets_ k (by omega) 324000 (sd a) (by omega) (by omega)]; simp only [Option.bind_some]
    cases u : bup 324000 (sd a) 648000 with
    | true =>
      rw [if_pos rfl]
      exact .inl ⟨h.1, h.2, impl_LatDay_l0 (sd a) hb.1 hb.2 324000 k 0 324000 (by omega) (by omega) (by omega) u (.inl rfl) (by omega)⟩
    | false => rw [if_neg (by simp)]; exact .inr (.inl ⟨h.1, h.2, rfl, rfl⟩)
  · rw [if_neg h]; exact .inr (.inr ⟨h, rfl⟩)

theorem Lat_ (a : Int) : spec_l21Lat.f a = some (decide (-324000 ≤ a ∧ a ≤ 324000)) := by
  unfold spec_l21Lat.f; rw [In_]; rfl

theorem Code21_ (l d h : Int) : spec_l21Code.f l d h = some (if (-324000 ≤ l ∧ l ≤ 324000) ∧ (-324000 ≤ d ∧ d ≤ 324000) ∧ 0 ≤ h ∧ h ≤ 648000 then 0 else 2) := by
  unfold spec_l21Code.f
  rw [Lat_, Lat_, In_]; simp only [Option.bind_some, decide_eq_true_eq]
  by_cases h1 : -324000 ≤ l ∧ l ≤ 324000
  · by_cases h2 : -324000 ≤ d ∧ d ≤ 324000
    · by_cases h3 : 0 ≤ h ∧ h ≤ 648000
      · rw [if_pos h1, if_pos h2, if_pos h3, if_pos ⟨h1, h2, h3⟩]
      · rw [if_pos h1, if_pos h2, if_neg h3, if_neg (by omega)]
    · rw [if_pos h1, if_neg h2, if_neg (by omega)]
  · rw [if_neg h1, if_neg (by omega)]

theorem SpecCosine_ (k : Nat) (hk : 6 ≤ k) (a : Int) (h0 : -4611686018427387904 ≤ a) (h1 : a ≤ 4611686018427387904) : spec_l03Cosine.f k a = some (cs a) := by
  unfold spec_l03Cosine.f
  rw [w64 (by omega) (by omega), SpecSine_ k hk]; rfl

theorem Min_ (a b : Int) : spec_l00Min.f a b = some (mn a b) := by
  unfold spec_l00Min.f mn
  by_cases h : a < b
  · rw [if_pos h, if_neg (by omega)]
  · rw [if_neg h]; by_cases h2 : b < a
    · rw [if_pos h2]
    · rw [if_neg h2, show a = b by omega]

theorem Max_ (a b : Int) : spec_l00Max.f a b = some (mx a b) := by
  unfold spec_l00Max.f mx
  by_cases h : a > b
  · rw [if_pos h, if_neg (by omega)]
  · rw [if_neg h]; by_cases h2 : a < b
    · rw [if_pos h2]
    · rw [if_neg h2, show a = b by omega]

theorem Wrap_ (a : Int) (ha : -4611686018427387904 ≤ a) (ha2 : a ≤ 4611686018427387904) : spec_l02Wrap.f a = some (wr a) := by
  unfold spec_l02Wrap.f wr
  rw [w64 (n := a + 648000) (by omega) (by omega), tmod_eq _ _ (by omega)]
  by_cases h : 0 ≤ a + 648000
  · rw [if_pos h, if_neg (by omega), w64 (by omega) (by omega)]
  · rw [if_neg h]
    by_cases h2 : -(-(a + 648000) % 1296000) < 0
    · rw [if_pos h2, w64 (n := -(-(a + 648000) % 1296000) + 1296000) (by omega) (by omega), w64 (by omega) (by omega)]; congr 1; omega
    · rw [if_neg h2, w64 (by omega) (by omega)]; congr 1; omega

theorem SpecAlt_ (k : Nat) (hk : 6 ≤ k) (l d h : Int) (hl : -324000 ≤ l ∧ l ≤ 324000) (hd : -324000 ≤ d ∧ d ≤ 324000) (hh : -1000000000 ≤ h ∧ h ≤ 1000000000) : spec_l21Sine.f k l d h = some (alt l d h) := by
  unfold spec_l21Sine.f spec_l05Cos.f
  have hw := wr_range h
  rw [Wrap_ _ (by omega) (by omega)]; simp only [Option.bind_some]
  rw [SpecSine_ k hk, SpecSine_ k hk, SpecCosine_ k hk _ (by omega) (by omega), SpecCosine_ k hk _ (by omega) (by omega)]; simp only [Option.bind_some]
  rw [w64 (n := wr h - 0) (by omega) (by omega), SpecCosine_ k hk _ (by omega) (by omega), Int.sub_zero]; simp only [Option.bind_some]
  have s1 := sn_bounds l
  have s2 := sn_bounds d
  have c1 := cs_bounds l
  have c2 := cs_bounds d
  have c3 := cs_bounds (wr h)
  have m1 := mul_bounds (sn l) (sn d) 1000000 1000000 (by omega) (by omega) (by omega) (by omega) (by omega) (by omega)
  have m2 := mul_bounds (cs l) (cs d) 1000000 1000000 (by omega) (by omega) (by omega) (by omega) (by omega) (by omega)
  have m3 := mul_bounds (cs l * cs d) (cs (wr h)) 1000000000000 1000000 (by omega) (by omega) (by omega) (by omega) (by omega) (by omega)
  rw [w64 (n := sn l * sn d) (by omega) (by omega), w64 (n := sn l * sn d * 1000000) (by omega) (by omega), w64 (n := cs l * cs d) (by omega) (by omega), w64 (n := cs l * cs d * cs (wr h)) (by omega) (by omega), w64 (n := sn l * sn d * 1000000 + cs l * cs d * cs (wr h)) (by omega) (by omega), Floor_ _ _ (by omega) (by omega) (by omega)]; simp only [Option.bind_some]
  rw [Min_]; simp only [Option.bind_some]
  rw [Max_]; rfl

theorem SpecUp_ (k : Nat) (hk : 6 ≤ k) (l d h : Int) (hl : -324000 ≤ l ∧ l ≤ 324000) (hd : -324000 ≤ d ∧ d ≤ 324000) (hh : -1000000000 ≤ h ∧ h ≤ 1000000000) : spec_l21Up.f k l d h = some (bup l d h) := by
  unfold spec_l21Up.f
  rw [SpecAlt_ k hk l d h hl hd hh]; rfl

theorem SpecSets_ (k : Nat) (hk : 6 ≤ k) (l d : Int) (hl : -324000 ≤ l ∧ l ≤ 324000) (hd : -324000 ≤ d ∧ d ≤ 324000) : spec_l21Sets.f k l d = some (if bup l d 0 = true then (if bup l d 648000 = true then 3 else 0) else 6) := by
  unfold spec_l21Sets.f
  rw [SpecUp_ k hk l d 0 hl hd (by omega), SpecUp_ k hk l d 648000 hl hd (by omega)]; simp only [Option.bind_some]
  cases bup l d 0 <;> cases bup l d 648000 <;> rfl

theorem spec_Setting_l (l d s : Int) (hl : -324000 ≤ l ∧ l ≤ 324000) (hd : -324000 ≤ d ∧ d ≤ 324000) (hs : 1 ≤ s) (hs2 : s ≤ 648000) : ∀ (n k : Nat) (a b : Int), b - a = n → 0 ≤ a → a < b → b ≤ 648000 / s → bup l d (a * s) = true → (b < 648000 / s → bup l d (b * s) = false) → n + 6 ≤ k → spec_l21Setting.l0 k l d s a b = some (setm l d s * s) := by
  have hN : 648000 / s * s ≤ 648000 := Int.ediv_mul_le _ (by omega)
  have hN2 : 648000 / s ≤ 648000 := Int.ediv_le_self _ (by omega)
  have hmul : ∀ x y : Int, x ≤ y → x * s ≤ y * s := fun x y h => Int.mul_le_mul_of_nonneg_right h (by omega)
  intro n
  induction n using Nat.strongRecOn with
  | _ n ih =>
    intro k a b hn h0 hab hb ha hbf hk
    obtain ⟨k, rfl⟩ : ∃ m, k = m + 1 := ⟨k - 1, by omega⟩
    simp only [spec_l21Setting.l0]
    have hbs := hmul b (648000 / s) hb
    have hb0 : 0 ≤ b * s := Int.mul_nonneg (by omega) (by omega)
    rw [w64 (n := b - a) (by omega) (by omega)]
    by_cases c : b - a > 1
    · rw [if_pos c, w64 (n := a + b) (by omega) (by omega), Int.tdiv_eq_ediv_of_nonneg (by omega), w64 (n := (a + b) / 2) (by omega) (by omega)]
      have hms := hmul ((a + b) / 2) b (by omega)
      have hm0 : 0 ≤ (a + b) / 2 * s := Int.mul_nonneg (by omega) (by omega)
      rw [w64 (n := (a + b) / 2 * s) (by omega) (by omega), SpecUp_ k (by omega) l d _ hl hd (by omega)]; simp only [Option.bind_some]
      cases hu : bup l d ((a + b) / 2 * s) with
      | true =>
        rw [if_pos rfl]
        exact ih (b - (a + b) / 2).toNat (by omega) k _ _ (by omega) (by omega) (by omega) hb hu hbf (by omega)
      | false =>
        rw [if_neg (by simp)]
        exact ih ((a + b) / 2 - a).toNat (by omega) k _ _ (by omega) h0 (by omega) (by omega) ha (fun _ => hu) (by omega)
    · rw [if_neg c, w64 (by omega) (by omega)]
      congr 2
      symm
      refine setm_is l d s b hs (by omega) hb (fun j hj hj2 => ?_) hbf
      have := hmul j a (by omega)
      have := hmul a b (by omega)
      exact up_hour l d (j * s) (a * s) hl hd (Int.mul_nonneg hj (by omega)) (by omega) (by omega) ha

theorem SpecSetting_ (l d s : Int) (hl : -324000 ≤ l ∧ l ≤ 324000) (hd : -324000 ≤ d ∧ d ≤ 324000) (hs : 1 ≤ s) (hs2 : s ≤ 648000) (hu : bup l d 0 = true) (k : Nat) (hk : 648010 ≤ k) : spec_l21Setting.f k l d s = some (setm l d s * s) := by
  unfold spec_l21Setting.f
  have hN2 : 648000 / s ≤ 648000 := Int.ediv_le_self _ (by omega)
  have hN3 : 1 ≤ 648000 / s := Int.le_ediv_of_mul_le (by omega) (by omega)
  rw [if_neg (by omega), Int.tdiv_eq_ediv_of_nonneg (by omega), w64 (by omega) (by omega)]
  exact spec_Setting_l l d s hl hd hs hs2 (648000 / s).toNat k 0 _ (by omega) (by omega) (by omega) (by omega) (by simpa using hu) (fun h => by omega) (by omega)

theorem SpecAngle_ (l d : Int) (hl : -324000 ≤ l ∧ l ≤ 324000) (hd : -324000 ≤ d ∧ d ≤ 324000) (k : Nat) (hk : 648010 ≤ k) : spec_l21Angle.f k l d = some (ang l d) := by
  unfold spec_l21Angle.f ang
  rw [SpecSets_ k (by omega) l d hl hd]; simp only [Option.bind_some]
  by_cases h : bup l d 0 = true
  · by_cases h2 : bup l d 648000 = true
    · rw [if_pos h, if_pos h2, if_neg (by omega), if_pos rfl, if_pos h, if_pos h2]
    · have := setm_bounds l d 1 (by omega)
      rw [if_pos h, if_neg h2, if_neg (by omega), if_neg (by omega), if_pos h, if_neg h2, SpecSetting_ l d 1 hl hd (by omega) (by omega) h k hk]; simp only [Option.bind_some]
      rw [Int.mul_one, w64 (by omega) (by omega)]
  · rw [if_neg h, if_pos rfl, if_neg h]

theorem SpecUpAngle_ (l d : Int) (k : Nat) (hk : 648010 ≤ k) : spec_UpAngle.f k l d = some (if (-324000 ≤ l ∧ l ≤ 324000) ∧ (-324000 ≤ d ∧ d ≤ 324000) then (ang l d, 0) else (0, 2)) := by
  unfold spec_UpAngle.f
  rw [Code21_]; simp only [Option.bind_some]
  by_cases h : (-324000 ≤ l ∧ l ≤ 324000) ∧ (-324000 ≤ d ∧ d ≤ 324000)
  · rw [if_pos (show _ ∧ _ ∧ _ from ⟨h.1, h.2, by omega, by omega⟩), if_pos rfl, if_pos h, SpecAngle_ l d h.1 h.2 k hk]; rfl
  · rw [if_neg (by omega), if_neg (by omega), if_neg h]

theorem rd_mem (l : List Int) (i : Int) (h0 : 0 ≤ i) (h : i < l.length) : rd l i ∈ l := by
  unfold rd
  rw [List.getD_eq_getElem?_getD, List.getElem?_eq_getElem (by omega)]
  exact List.getElem_mem _
theorem u64_range (n : Int) : 0 ≤ IntKind.u64.wrap n ∧ IntKind.u64.wrap n < 18446744073709551616 := by
  have e : IntKind.u64.wrap n = n % 18446744073709551616 := by simp [IntKind.wrap, IntKind.bits, IntKind.signed]
  rw [e]; omega
theorem low_byte (n : Int) : 0 ≤ Go.bits .and .u64 (IntKind.u64.wrap n / 1099511627776) 255 ∧ Go.bits .and .u64 (IntKind.u64.wrap n / 1099511627776) 255 ≤ 255 := by
  have h := u64_range n
  have e : Go.bits .and .u64 (IntKind.u64.wrap n / 1099511627776) 255 = (IntKind.u64.wrap n / 1099511627776) % 256 :=
    Go.bits_mask .u64 64 (by decide) (fun m g0 g1 => by
      have e : IntKind.u64.wrap m = m % 18446744073709551616 := by simp [IntKind.wrap, IntKind.bits, IntKind.signed]
      have : (2 : Int) ^ 64 = 18446744073709551616 := by decide
      rw [e]; omega) 8 (by decide) _ (by omega) (by have : (2 : Int) ^ 64 = 18446744073709551616 := by decide
                                                    omega)
  rw [e]; omega
theorem low_byte_w (n : Int) : 0 ≤ wrap64 (Go.bits .and .u64 (IntKind.u64.wrap n / 1099511627776) 255) ∧ wrap64 (Go.bits .and .u64 (IntKind.u64.wrap n / 1099511627776) 255) ≤ 255 := by
  have h := low_byte n
  rw [w64 (by omega) (by omega)]; exact h
theorem Next_ (l : List Int) (hl : ∀ x ∈ l, 0 ≤ x ∧ x ≤ 255) (a s : Int) (h0 : 0 ≤ a) (h1 : a ≤ 1152921504606846976) : ∃ v s', spec_l00Src_next.f l a s = some (v, a + 1, s') ∧ 0 ≤ v ∧ v ≤ 255 := by
  unfold spec_l00Src_next.f
  have hw : wrap64 (a + 1) = a + 1 := w64 (by omega) (by omega)
  by_cases c : a < (l.length : Int)
  · have hb := hl _ (rd_mem l a h0 c)
    rw [if_pos c, if_pos h0, hw, if_pos (by omega)]
    exact ⟨_, _, rfl, by rw [w64 (by omega) (by omega)]; omega, by rw [w64 (by omega) (by omega)]; omega⟩
  · rw [if_neg c, hw, if_neg (by omega)]
    exact ⟨_, _, rfl, (low_byte_w _).1, (low_byte_w _).2⟩

theorem Pick_ (l : List Int) (hl : ∀ x ∈ l, 0 ≤ x ∧ x ≤ 255) (a s n : Int) (h0 : 0 ≤ a) (h1 : a ≤ 1000000000000) : ∃ v a' s', spec_l00Src_pick.f l a s n = some (v, a', s') ∧ a ≤ a' ∧ a' ≤ a + 2 ∧ 0 ≤ v ∧ v ≤ 65535 ∧ (1 ≤ n → v < n) ∧ (n ≤ 1 → v = 0) := by
  unfold spec_l00Src_pick.f
  by_cases c : n ≤ 1
  · rw [if_pos c]; exact ⟨0, a, s, rfl, by omega, by omega, by omega, by omega, by omega, by omega⟩
  · obtain ⟨v, s', hv, v0, v1⟩ := Next_ l hl a s h0 (by omega)
    rw [if_neg c, hv]; simp only [Option.bind_some]
    by_cases d : n > 200
    · obtain ⟨u, s2, hu, u0, u1⟩ := Next_ l hl (a + 1) s' (by omega) (by omega)
      rw [if_pos d, hu]; simp only [Option.bind_some]
      rw [if_neg (by omega), w64 (n := v * 256) (by omega) (by omega), w64 (n := v * 256 + u) (by omega) (by omega), tmod_eq _ _ (by omega), if_pos (by omega)]
      have g0 := Int.emod_nonneg (v * 256 + u) (b := n) (by omega)
      have g1 := Int.emod_lt_of_pos (v * 256 + u) (b := n) (by omega)
      have g2 := Int.mul_ediv_add_emod (v * 256 + u) n
      have g3 := Int.mul_nonneg (show 0 ≤ n by omega) (Int.ediv_nonneg (show 0 ≤ v * 256 + u by omega) (show 0 ≤ n by omega))
      exact ⟨_, _, _, rfl, by omega, by omega, g0, by omega, fun _ => g1, fun _ => by omega⟩
    · rw [if_neg d, if_neg (by omega), tmod_eq _ _ (by omega), if_pos (by omega)]
      have g0 := Int.emod_nonneg v (b := n) (by omega)
      have g1 := Int.emod_lt_of_pos v (b := n) (by omega)
      exact ⟨_, _, _, rfl, by omega, by omega, g0, by omega, fun _ => g1, fun _ => by omega⟩

theorem A2Lat_ (l : List Int) (hl : ∀ x ∈ l, 0 ≤ x ∧ x ≤ 255) : ∃ v, spec_A2Lat.f l = some v ∧ -162000 ≤ v ∧ v ≤ 162000 := by
  unfold spec_A2Lat.f spec_l00From.f
  obtain ⟨v, a', s', h, g1, g2, g3, g4, g5, g6⟩ := Pick_ l hl 0 0 181 (by omega) (by omega)
  have := g5 (by omega)
  simp only [Option.bind_some]; rw [h]; simp only [Option.bind_some]
  rw [w64 (n := v - 90) (by omega) (by omega), w64 (n := 1800 * (v - 90)) (by omega) (by omega)]
  exact ⟨_, rfl, by omega, by omega⟩

theorem a2At_ (l : List Int) (hl : ∀ x ∈ l, 0 ≤ x ∧ x ≤ 255) (i n : Int) (h0 : 0 ≤ i) (hn : 1 ≤ n) : ∃ v, laws_a2At.f l i n = some v ∧ 0 ≤ v ∧ v < n := by
  unfold laws_a2At.f
  by_cases c : i ≥ (l.length : Int)
  · rw [if_pos c]; exact ⟨0, rfl, by omega, by omega⟩
  · have hb := hl _ (rd_mem l i h0 (by omega))
    rw [if_neg c, if_neg (by omega), if_pos h0, if_pos (by omega), if_neg (by omega), w64 (by omega) (by omega), tmod_eq _ _ (by omega), if_pos hb.1]
    exact ⟨_, rfl, Int.emod_nonneg _ (by omega), Int.emod_lt_of_pos _ (by omega)⟩

theorem a2Long_ (l0 l1 : List Int) : ∃ b, laws_a2Long.f l0 l1 = some b := by
  unfold laws_a2Long.f; split <;> exact ⟨_, rfl⟩

theorem bytes_of {l : List Int} (h : ∀ x ∈ l, (Lit.int .u8 x).wf = true) : ∀ x ∈ l, 0 ≤ x ∧ x ≤ 255 := by
  intro x hx
  simpa [Lit.wf, IntKind.min, IntKind.max, IntKind.signed, IntKind.bits] using h x hx

set_option maxRecDepth 20000 in
theorem FnSuns : laws_FnSuns.Pure := by
  intro l0 l1 _ _ w0 _ _ w1
  have w0 := bytes_of w0
  have w1 := bytes_of w1
  refine ⟨648410, ?_⟩
  unfold laws_FnSuns.f
  obtain ⟨b, hb⟩ := a2Long_ l0 l1
  rw [hb]; simp only [Option.bind_some]
  cases b with
  | true => simp
  | false =>
    simp only [Bool.false_eq_true, if_false]
    obtain ⟨l, e1, l1', l2'⟩ := A2Lat_ l0 w0
    obtain ⟨t, e3, t1, t2⟩ := a2At_ l1 w1 0 365 (by omega) (by omega)
    have hl : -324000 ≤ l ∧ l ≤ 324000 := by omega
    have hb := sd_bounds t
    rw [e1, e3]; simp only [Option.bind_some]
    rw [ImplSunDecl_ t _ (by omega), if_pos (by omega)]; simp only [Option.bind_some]
    rw [ImplLongest_ l _ (by omega), ImplUpAngle_ l _ _ (by omega), ImplNights_ l _ (by omega), if_pos hl, if_pos (show _ ∧ _ from ⟨hl, by omega⟩), if_pos hl]; simp only [Option.bind_some, if_true]
    obtain ⟨g1, g2, g3⟩ := lday_says (fun t => ang l (sd t)) 365 0 0 (-1)
    obtain ⟨n1, n2, n3⟩ := howoft_says (fun t => bup l (sd t) 648000) 365 0 0
    generalize lday (fun t => ang l (sd t)) 365 0 0 (-1) = D at *
    generalize howoft (fun t => bup l (sd t) 648000) 365 0 0 = H at *
    (try simp only at g1)
    (try simp only at g2)
    (try simp only at g3)
    (try simp only at n3)
    have gt := g2 t (by omega) (by omega)
    have at_ := ang_bounds l (sd t)
    have gd : 0 ≤ D.1 ∧ D.1 ≤ 364 ∧ ang l (sd D.1) = D.2 := by
      rcases g3 with g3 | ⟨a, b, c⟩
      · rw [g3] at gt; simp at gt; omega
      · exact ⟨a, by omega, c⟩
    have hD := sd_bounds D.1
    have hnight : (decide (H > 0) != (D.2 == 1296000)) = false := by
      have e : H > 0 ↔ D.2 = 1296000 := by
        rw [show (H > 0) = (0 < H) from rfl, n3]
        constructor
        · rintro ⟨j, a, b, c⟩
          have := sd_bounds j
          have h1 := (ang_turn l (sd j) hl (by omega)).2 c
          have h2 := g2 j a b
          have h3 := ang_bounds l (sd D.1)
          omega
        · intro h
          exact ⟨D.1, by omega, by omega, (ang_turn l (sd D.1) hl (by omega)).1 (by omega)⟩
      by_cases c : H > 0
      · have := e.1 c; simp [c, this]
      · have : ¬ D.2 = 1296000 := fun h => c (e.2 h)
        simp [c, this]
    rw [if_neg (by omega), if_neg (by omega), if_neg (by omega), if_neg (by omega), if_neg (by omega), if_neg (by omega), if_neg (by omega), hnight]
    simp only [laws_FnSuns.j0, Bool.false_eq_true, if_false]
    rw [SpecSunDecl_ D.1 _ (by omega), if_pos (by omega)]; simp only [Option.bind_some]
    rw [ImplUpAngle_ l _ _ (by omega), if_pos (show _ ∧ _ from ⟨hl, by omega⟩)]; simp only [Option.bind_some]
    rcases ImplLatDay_ t 648409 (by omega) with ⟨_, _, m, k3, k4⟩ | ⟨_, _, k3, k4⟩ | ⟨k1, k3⟩
    · rw [k3]; simp only [Option.bind_some, if_true]
      rw [gd.2.2]
      obtain ⟨m0, m1, m2, m3⟩ := k4
      simp only [laws_FnSuns.j1, bne_self_eq_false, Bool.false_eq_true, if_false, if_true]
      rw [if_neg (by omega), show decide (m > 324000) = false by simp; omega]
      simp only [laws_FnSuns.j2, Bool.false_eq_true, if_false]
      rw [SpecUpAngle_ m _ _ (by omega), if_pos (by omega)]; simp only [Option.bind_some, if_true]
      rw [(ang_turn m (sd t) (by omega) (by omega)).2 m2]
      simp only [laws_FnSuns.j3, bne_self_eq_false, Bool.false_eq_true, if_false]
      by_cases z : m = 0
      · rw [if_pos z]
      · rw [if_neg z, w64 (n := m - 1) (by omega) (by omega), SpecUpAngle_ (m - 1) _ _ (by omega), if_pos (by omega)]; simp only [Option.bind_some, if_true]
        have : ang (m - 1) (sd t) ≠ 1296000 := by
          intro h
          have := (ang_turn (m - 1) (sd t) (by omega) (by omega)).1 h
          rcases m3 with m3 | m3
          · exact z m3
          · simp_all
        simp [this]
    · rw [k3]; simp only [Option.bind_some, if_true]
      rw [gd.2.2]
      simp only [laws_FnSuns.j1, bne_self_eq_false, Bool.false_eq_true, if_false]
      rw [if_neg (by omega), SpecUpAngle_ 324000 _ _ (by omega), if_pos (by omega)]; simp only [Option.bind_some, if_true]
      have : ang 324000 (sd t) ≠ 1296000 := by
        intro h
        have := (ang_turn 324000 (sd t) (by omega) (by omega)).1 h
        simp_all
      simp [this]
    · omega

end Go.Proofs.Ytibbbeidbapfeaa.Pure
