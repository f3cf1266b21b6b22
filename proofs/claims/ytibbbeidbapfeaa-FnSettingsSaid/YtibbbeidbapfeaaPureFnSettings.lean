/- At all drawn latitudes, declinations and hours a body is up until just before its hour of setting, it is up for twice this hour, and its noon is highest. No condition. -/
import Derived.Test.YtibbbeidbapfeaaQFnSettingsx3
import Derived.Test.YtibbbeidbapfeaaBase
import Derived.Test.YtibbbeidbapfeaaSky
namespace Go.Proofs.Ytibbbeidbapfeaa.Pure
open Go Go.RowKit Go.Proofs.Ytibbbeidbapfeaa.QFnSettings Go.Proofs.YtibbbeidbapfeaaW.PrintWords Go.Proofs.YtibbbeidbapfeaaW.PrintLast Go.Proofs.YtibbbeidbapfeaaW.PrintMore Go.Proofs.Ytibbbeidbapfeaa.Base
set_option linter.unusedVariables false
set_option linter.unusedSimpArgs false

theorem floorDiv_ (a b : Int) (hb : 0 < b) (ha : -4611686018427387904 ≤ a) (ha2 : a ≤ 4611686018427387904) : impl_floorDiv.f a b = some (a / b) := by
  unfold impl_floorDiv.f
  rw [if_neg (by omega)]
  obtain ⟨h1, h2⟩ := ediv_bounds a b 4611686018427387904 hb ha ha2 (by omega)
  have e := floor_eq a b hb
  by_cases c : Int.tmod a b < 0
  · rw [if_pos c] at e ⊢; rw [w64 (n := Int.tdiv a b) (by omega) (by omega), w64 (by omega) (by omega), e]
  · rw [if_neg c] at e ⊢; rw [w64 (by omega) (by omega), e]

theorem nearest_ (a b : Int) (hb : 0 < b) (hb2 : b ≤ 100000000000000000) (ha : -2000000000000000000 ≤ a) (ha2 : a ≤ 2000000000000000000) : impl_nearest.f a b = some (near a b) := by
  unfold impl_nearest.f
  rw [w64 (n := 2 * a) (by omega) (by omega), w64 (n := 2 * a + b) (by omega) (by omega), w64 (n := 2 * b) (by omega) (by omega), floorDiv_ _ _ (by omega) (by omega) (by omega)]
  rfl

theorem around_ (a : Int) (ha : -9223372036854775808 ≤ a) (ha2 : a ≤ 9223372036854775807) : impl_around.f a = some (a % 1296000) := by
  unfold impl_around.f
  have h1 : Int.tmod a 1296000 = if 0 ≤ a then a % 1296000 else -(-a % 1296000) := tmod_eq _ _ (by omega)
  have h2 : -1296000 < Int.tmod a 1296000 ∧ Int.tmod a 1296000 < 1296000 := by rw [h1]; split <;> omega
  rw [w64 (n := Int.tmod a 1296000 + 1296000) (by omega) (by omega), tmod_eq _ _ (by omega), if_pos (by omega), h1]
  split
  · congr 1; omega
  · congr 1; omega

theorem ImplSine_lo (k : Nat) (hk : 1 ≤ k) (x : Int) (h0 : 0 ≤ x) (h1 : x < 648000) : impl_sine.f k x = some (sn0 x) := by
  obtain ⟨k, rfl⟩ : ∃ m, k = m + 1 := ⟨k - 1, by omega⟩
  simp only [impl_sine.f]
  rw [around_ _ (by omega) (by omega)]; simp only [Option.bind_some]
  rw [show x % 1296000 = x by omega, if_neg (by omega), w64 (n := 648000 - x) (by omega) (by omega)]
  have hp := pp_bounds x h0 (by omega)
  rw [show x * (648000 - x) = pp x from rfl, w64 (n := pp x) (by omega) (by omega), w64 (n := 16000000 * pp x) (by omega) (by omega), w64 (n := 4 * pp x) (by omega) (by omega), w64 (n := 2099520000000 - 4 * pp x) (by omega) (by omega), nearest_ _ _ (by omega) (by omega) (by omega) (by omega)]
  rfl

theorem ImplSine_ (k : Nat) (hk : 6 ≤ k) (a : Int) (h0 : -9223372036854775808 ≤ a) (h1 : a ≤ 9223372036854775807) : impl_sine.f k a = some (sn a) := by
  by_cases c : a % 1296000 ≥ 648000
  · obtain ⟨k, rfl⟩ : ∃ m, k = m + 1 := ⟨k - 1, by omega⟩
    simp only [impl_sine.f]
    rw [around_ _ h0 h1]; simp only [Option.bind_some]
    have := sn0_bounds (a % 1296000 - 648000) (by omega) (by omega)
    rw [if_pos c, w64 (n := a % 1296000 - 648000) (by omega) (by omega), ImplSine_lo k (by omega) _ (by omega) (by omega)]
    simp only [Option.bind_some]
    rw [w64 (by omega) (by omega)]; unfold sn; rw [if_pos c]
  · have h := ImplSine_lo k (by omega) (a % 1296000) (by omega) (by omega)
    obtain ⟨k, rfl⟩ : ∃ m, k = m + 1 := ⟨k - 1, by omega⟩
    simp only [impl_sine.f] at h ⊢
    rw [around_ _ (by omega) (by omega)] at h; rw [around_ _ h0 h1]
    rw [show a % 1296000 % 1296000 = a % 1296000 by omega] at h
    unfold sn; rw [if_neg c]; exact h

theorem ImplCosine_ (k : Nat) (hk : 6 ≤ k) (a : Int) (h0 : -4611686018427387904 ≤ a) (h1 : a ≤ 4611686018427387904) : impl_cosine.f k a = some (cs a) := by
  unfold impl_cosine.f
  rw [w64 (by omega) (by omega), ImplSine_ k hk _ (by omega) (by omega)]; rfl

theorem wrap_ (a : Int) (ha : -4611686018427387904 ≤ a) (ha2 : a ≤ 4611686018427387904) : impl_wrap.f a = some (wr a) := by
  unfold impl_wrap.f wr
  rw [w64 (n := a + 648000) (by omega) (by omega), around_ _ (by omega) (by omega)]
  simp only [Option.bind_some]
  rw [w64 (by omega) (by omega)]

theorem ImplAlt_ (k : Nat) (hk : 6 ≤ k) (l d h : Int) (hl : -324000 ≤ l ∧ l ≤ 324000) (hd : -324000 ≤ d ∧ d ≤ 324000) (hh : -1000000000 ≤ h ∧ h ≤ 1000000000) : impl_altitudeSine.f k l d h = some (alt l d h) := by
  unfold impl_altitudeSine.f impl_cosDistance.f
  have hw := wr_range h
  rw [wrap_ _ (by omega) (by omega)]; simp only [Option.bind_some]
  rw [ImplSine_ k hk _ (by omega) (by omega), ImplSine_ k hk _ (by omega) (by omega), ImplCosine_ k hk _ (by omega) (by omega), ImplCosine_ k hk _ (by omega) (by omega)]; simp only [Option.bind_some]
  rw [w64 (n := wr h - 0) (by omega) (by omega), ImplCosine_ k hk _ (by omega) (by omega), Int.sub_zero]; simp only [Option.bind_some]
  have s1 := sn_bounds l
  have s2 := sn_bounds d
  have c1 := cs_bounds l
  have c2 := cs_bounds d
  have c3 := cs_bounds (wr h)
  have m1 := mul_bounds (sn l) (sn d) 1000000 1000000 (by omega) (by omega) (by omega) (by omega) (by omega) (by omega)
  have m2 := mul_bounds (cs l) (cs d) 1000000 1000000 (by omega) (by omega) (by omega) (by omega) (by omega) (by omega)
  have m3 := mul_bounds (cs l * cs d) (cs (wr h)) 1000000000000 1000000 (by omega) (by omega) (by omega) (by omega) (by omega) (by omega)
  rw [w64 (n := sn l * sn d) (by omega) (by omega), w64 (n := sn l * sn d * 1000000) (by omega) (by omega), w64 (n := cs l * cs d) (by omega) (by omega), w64 (n := cs l * cs d * cs (wr h)) (by omega) (by omega), w64 (n := sn l * sn d * 1000000 + cs l * cs d * cs (wr h)) (by omega) (by omega), floorDiv_ _ _ (by omega) (by omega) (by omega)]; simp only [Option.bind_some]
  rfl

theorem ImplUp_ (k : Nat) (hk : 6 ≤ k) (l d h : Int) (hl : -324000 ≤ l ∧ l ≤ 324000) (hd : -324000 ≤ d ∧ d ≤ 324000) (hh : -1000000000 ≤ h ∧ h ≤ 1000000000) : impl_isUp.f k l d h = some (bup l d h) := by
  unfold impl_isUp.f
  rw [ImplAlt_ k hk l d h hl hd hh]; rfl

theorem within_ (a b c : Int) : impl_within.f a b c = some (decide (b ≤ a ∧ a ≤ c)) := by
  unfold impl_within.f
  by_cases h : a ≥ b
  · rw [if_pos h]; simp [show b ≤ a from h]
  · rw [if_neg h]; simp [show ¬ b ≤ a from h]

theorem isLat_ (a : Int) : impl_isLat.f a = some (decide (-324000 ≤ a ∧ a ≤ 324000)) := by
  unfold impl_isLat.f; rw [within_]; rfl

theorem ImplNeverRises_ (k : Nat) (hk : 6 ≤ k) (l d : Int) (hl : -324000 ≤ l ∧ l ≤ 324000) (hd : -324000 ≤ d ∧ d ≤ 324000) : impl_neverRises.f k l d = some (!bup l d 0) := by
  unfold impl_neverRises.f
  rw [ImplUp_ k hk l d 0 hl hd (by omega)]; rfl

theorem ImplNeverSets_ (k : Nat) (hk : 6 ≤ k) (l d : Int) (hl : -324000 ≤ l ∧ l ≤ 324000) (hd : -324000 ≤ d ∧ d ≤ 324000) : impl_neverSets.f k l d = some (bup l d 648000) := by
  unfold impl_neverSets.f
  rw [ImplUp_ k hk l d 648000 hl hd (by omega)]; rfl

theorem ImplSetCode_ (k : Nat) (hk : 7 ≤ k) (l d : Int) : impl_settingCode.f k l d = some (if (-324000 ≤ l ∧ l ≤ 324000) ∧ (-324000 ≤ d ∧ d ≤ 324000) then (if bup l d 0 = true then (if bup l d 648000 = true then 3 else 0) else 6) else 2) := by
  obtain ⟨k, rfl⟩ : ∃ m, k = m + 1 := ⟨k - 1, by omega⟩
  unfold impl_settingCode.f
  rw [isLat_, isLat_]; simp only [Option.bind_some, decide_eq_true_eq, impl_settingCode.j0]
  by_cases h1 : -324000 ≤ l ∧ l ≤ 324000
  · by_cases h2 : -324000 ≤ d ∧ d ≤ 324000
    · rw [if_pos h1, if_neg (by simp [h2]), if_pos ⟨h1, h2⟩, ImplNeverRises_ k (by omega) l d h1 h2, ImplNeverSets_ k (by omega) l d h1 h2]; simp only [Option.bind_some]
      cases bup l d 0 <;> cases bup l d 648000 <;> rfl
    · rw [if_pos h1, if_pos (by simp; omega), if_neg (by omega)]
  · rw [if_neg h1, if_neg (show ¬ ((-324000 ≤ l ∧ l ≤ 324000) ∧ (-324000 ≤ d ∧ d ≤ 324000)) by omega)]; simp

theorem impl_Setting_l (l d s : Int) (hl : -324000 ≤ l ∧ l ≤ 324000) (hd : -324000 ≤ d ∧ d ≤ 324000) (hs : 1 ≤ s) (hs2 : s ≤ 648000) : ∀ (n k : Nat) (a b : Int), b - a = n → 0 ≤ a → a ≤ b → b ≤ 648000 / s → (a = 0 ∨ bup l d ((a - 1) * s) = true) → (b < 648000 / s → bup l d (b * s) = false) → n + 7 ≤ k → impl_settingHour.l0 k l d s a b = some (setm l d s * s) := by
  have hN : 648000 / s * s ≤ 648000 := Int.ediv_mul_le _ (by omega)
  have hN2 : 648000 / s ≤ 648000 := Int.ediv_le_self _ (by omega)
  have hmul : ∀ x y : Int, x ≤ y → x * s ≤ y * s := fun x y h => Int.mul_le_mul_of_nonneg_right h (by omega)
  intro n
  induction n using Nat.strongRecOn with
  | _ n ih =>
    intro k a b hn h0 hab hb ha hbf hk
    obtain ⟨k, rfl⟩ : ∃ m, k = m + 1 := ⟨k - 1, by omega⟩
    simp only [impl_settingHour.l0]
    have hbs := hmul b (648000 / s) hb
    have hb0 : 0 ≤ b * s := Int.mul_nonneg (by omega) (by omega)
    by_cases c : a < b
    · rw [if_pos c, w64 (n := a + b) (by omega) (by omega), Int.tdiv_eq_ediv_of_nonneg (by omega), w64 (n := (a + b) / 2) (by omega) (by omega)]
      have hms := hmul ((a + b) / 2) b (by omega)
      have hm0 : 0 ≤ (a + b) / 2 * s := Int.mul_nonneg (by omega) (by omega)
      rw [w64 (n := (a + b) / 2 * s) (by omega) (by omega), ImplUp_ k (by omega) l d _ hl hd (by omega)]; simp only [Option.bind_some]
      cases hu : bup l d ((a + b) / 2 * s) with
      | true =>
        rw [if_pos rfl, w64 (n := (a + b) / 2 + 1) (by omega) (by omega)]
        exact ih (b - ((a + b) / 2 + 1)).toNat (by omega) k _ _ (by omega) (by omega) (by omega) hb (.inr (by rw [show (a + b) / 2 + 1 - 1 = (a + b) / 2 by omega]; exact hu)) hbf (by omega)
      | false =>
        rw [if_neg (by simp)]
        exact ih ((a + b) / 2 - a).toNat (by omega) k _ _ (by omega) h0 (by omega) (by omega) ha (fun _ => hu) (by omega)
    · have e : a = b := by omega
      subst e
      rw [if_neg c, w64 (by omega) (by omega)]
      congr 2
      symm
      refine setm_is l d s a hs (by omega) hb (fun j hj hj2 => ?_) hbf
      rcases ha with ha | ha
      · omega
      · have := hmul j (a - 1) (by omega)
        have := hmul (a - 1) a (by omega)
        exact up_hour l d (j * s) ((a - 1) * s) hl hd (Int.mul_nonneg hj (by omega)) (by omega) (by omega) ha

theorem ImplSetting_ (l d s : Int) (hl : -324000 ≤ l ∧ l ≤ 324000) (hd : -324000 ≤ d ∧ d ≤ 324000) (hs : 1 ≤ s) (hs2 : s ≤ 648000) (k : Nat) (hk : 648010 ≤ k) : impl_settingHour.f k l d s = some (setm l d s * s) := by
  unfold impl_settingHour.f
  have hN2 : 648000 / s ≤ 648000 := Int.ediv_le_self _ (by omega)
  have hN3 : 1 ≤ 648000 / s := Int.le_ediv_of_mul_le (by omega) (by omega)
  rw [if_neg (by omega), Int.tdiv_eq_ediv_of_nonneg (by omega), w64 (by omega) (by omega)]
  exact impl_Setting_l l d s hl hd hs hs2 (648000 / s).toNat k 0 _ (by omega) (by omega) (by omega) (by omega) (.inl rfl) (fun h => by omega) (by omega)

theorem ImplSettingHour_ (l d : Int) (k : Nat) (hk : 648010 ≤ k) : impl_SettingHour.f k l d = some (if (-324000 ≤ l ∧ l ≤ 324000) ∧ (-324000 ≤ d ∧ d ≤ 324000) then (if bup l d 0 = true then (if bup l d 648000 = true then (0, 3) else (setm l d 1, 0)) else (0, 6)) else (0, 2)) := by
  unfold impl_SettingHour.f
  rw [ImplSetCode_ k (by omega)]; simp only [Option.bind_some]
  by_cases h : (-324000 ≤ l ∧ l ≤ 324000) ∧ (-324000 ≤ d ∧ d ≤ 324000)
  · rw [if_pos h, if_pos h]
    by_cases h1 : bup l d 0 = true
    · by_cases h2 : bup l d 648000 = true
      · rw [if_pos h1, if_pos h2, if_neg (by omega), if_pos h1, if_pos h2]
      · rw [if_pos h1, if_neg h2, if_pos rfl, if_pos h1, if_neg h2, ImplSetting_ l d 1 h.1 h.2 (by omega) (by omega) k hk, Int.mul_one]; rfl
    · rw [if_neg h1, if_neg (by omega), if_neg h1]
  · rw [if_neg h, if_neg (by omega), if_neg h]

theorem ImplAngle_ (l d : Int) (hl : -324000 ≤ l ∧ l ≤ 324000) (hd : -324000 ≤ d ∧ d ≤ 324000) (k : Nat) (hk : 648010 ≤ k) : impl_upAngle.f k l d = some (ang l d) := by
  unfold impl_upAngle.f ang
  rw [ImplNeverRises_ k (by omega) l d hl hd, ImplNeverSets_ k (by omega) l d hl hd, ImplSetting_ l d 1 hl hd (by omega) (by omega) k hk]; simp only [Option.bind_some]
  have := setm_bounds l d 1 (by omega)
  rw [Int.mul_one, w64 (n := 2 * setm l d 1) (by omega) (by omega)]
  cases bup l d 0 <;> cases bup l d 648000 <;> rfl

theorem ImplUpAngle_ (l d : Int) (k : Nat) (hk : 648010 ≤ k) : impl_UpAngle.f k l d = some (if (-324000 ≤ l ∧ l ≤ 324000) ∧ (-324000 ≤ d ∧ d ≤ 324000) then (ang l d, 0) else (0, 2)) := by
  unfold impl_UpAngle.f
  rw [isLat_, isLat_]; simp only [Option.bind_some, decide_eq_true_eq]
  by_cases h1 : -324000 ≤ l ∧ l ≤ 324000
  · by_cases h2 : -324000 ≤ d ∧ d ≤ 324000
    · rw [if_pos h1, if_pos h2, if_pos ⟨h1, h2⟩, ImplAngle_ l d h1 h2 k hk]; rfl
    · rw [if_pos h1, if_neg h2, if_neg (by omega)]
  · rw [if_neg h1, if_neg (by omega)]

theorem isHour_ (a : Int) : impl_isHour.f a = some (decide (0 ≤ a ∧ a ≤ 648000)) := by
  unfold impl_isHour.f; rw [within_]; rfl

theorem ImplAltSine_ (l d h : Int) (k : Nat) (hk : 6 ≤ k) : impl_AltitudeSine.f k l d h = some (if (-324000 ≤ l ∧ l ≤ 324000) ∧ (-324000 ≤ d ∧ d ≤ 324000) ∧ 0 ≤ h ∧ h ≤ 648000 then (alt l d h, 0) else (0, 2)) := by
  unfold impl_AltitudeSine.f
  rw [isLat_, isLat_, isHour_]; simp only [Option.bind_some, decide_eq_true_eq]
  by_cases h1 : -324000 ≤ l ∧ l ≤ 324000
  · by_cases h2 : -324000 ≤ d ∧ d ≤ 324000
    · by_cases h3 : 0 ≤ h ∧ h ≤ 648000
      · rw [if_pos h1, if_pos h2, if_pos h3, if_pos ⟨h1, h2, h3⟩, ImplAlt_ k hk l d h h1 h2 (by omega)]; rfl
      · rw [if_pos h1, if_pos h2, if_neg h3, if_neg (by omega)]
    · rw [if_pos h1, if_neg h2, if_neg (by omega)]
  · rw [if_neg h1, if_neg (by omega)]

theorem absolute_ (a : Int) (ha : -9223372036854775807 ≤ a) (ha2 : a ≤ 9223372036854775807) : impl_absolute.f a = some (ab a) := by
  unfold impl_absolute.f ab mx
  rw [w64 (n := -a) (by omega) (by omega)]
  by_cases h : a < 0
  · rw [if_pos h, if_pos (by omega)]
  · rw [if_neg h, if_neg (by omega)]

theorem ImplNoon_ (l d : Int) : impl_NoonHeight.f l d = some (if (-324000 ≤ l ∧ l ≤ 324000) ∧ (-324000 ≤ d ∧ d ≤ 324000) then (324000 - ab (l - d), 0) else (0, 2)) := by
  unfold impl_NoonHeight.f
  rw [isLat_, isLat_]; simp only [Option.bind_some, decide_eq_true_eq]
  by_cases h1 : -324000 ≤ l ∧ l ≤ 324000
  · by_cases h2 : -324000 ≤ d ∧ d ≤ 324000
    · have : 0 ≤ ab (l - d) ∧ ab (l - d) ≤ 648000 := by unfold ab; split <;> omega
      rw [if_pos h1, if_pos h2, if_pos ⟨h1, h2⟩, w64 (n := l - d) (by omega) (by omega), absolute_ _ (by omega) (by omega)]; simp only [Option.bind_some]
      rw [w64 (by omega) (by omega)]
    · rw [if_pos h1, if_neg h2, if_neg (by omega)]
  · rw [if_neg h1, if_neg (by omega)]

theorem ImplIsUp_ (l d h : Int) (k : Nat) (hk : 6 ≤ k) : impl_IsUp.f k l d h = some (if (-324000 ≤ l ∧ l ≤ 324000) ∧ (-324000 ≤ d ∧ d ≤ 324000) ∧ 0 ≤ h ∧ h ≤ 648000 then (bup l d h, 0) else (false, 2)) := by
  unfold impl_IsUp.f
  rw [isLat_, isLat_, isHour_]; simp only [Option.bind_some, decide_eq_true_eq]
  by_cases h1 : -324000 ≤ l ∧ l ≤ 324000
  · by_cases h2 : -324000 ≤ d ∧ d ≤ 324000
    · by_cases h3 : 0 ≤ h ∧ h ≤ 648000
      · rw [if_pos h1, if_pos h2, if_pos h3, if_pos ⟨h1, h2, h3⟩, ImplUp_ k hk l d h h1 h2 (by omega)]; rfl
      · rw [if_pos h1, if_pos h2, if_neg h3, if_neg (by omega)]
    · rw [if_pos h1, if_neg h2, if_neg (by omega)]
  · rw [if_neg h1, if_neg (by omega)]

theorem rd_mem (l : List Int) (i : Int) (h0 : 0 ≤ i) (h : i < l.length) : rd l i ∈ l := by
  unfold rd
  rw [List.getD_eq_getElem?_getD, List.getElem?_eq_getElem (by omega)]
  exact List.getElem_mem _
theorem u64_range (n : Int) : 0 ≤ IntKind.u64.wrap n ∧ IntKind.u64.wrap n < 18446744073709551616 := by
  have e : IntKind.u64.wrap n = n % 18446744073709551616 := by simp [IntKind.wrap, IntKind.bits, IntKind.signed]
  rw [e]; omega
theorem low_byte (n : Int) : 0 ≤ Go.bits .and .u64 (IntKind.u64.wrap n / 1099511627776) 255 ∧ Go.bits .and .u64 (IntKind.u64.wrap n / 1099511627776) 255 ≤ 255 := by
  have h := u64_range n
  have e : Go.bits .and .u64 (IntKind.u64.wrap n / 1099511627776) 255 = (IntKind.u64.wrap n / 1099511627776) % 256 :=
    Go.bits_mask .u64 64 (by decide) (fun m g0 g1 => by
      have e : IntKind.u64.wrap m = m % 18446744073709551616 := by simp [IntKind.wrap, IntKind.bits, IntKind.signed]
      have : (2 : Int) ^ 64 = 18446744073709551616 := by decide
      rw [e]; omega) 8 (by decide) _ (by omega) (by have : (2 : Int) ^ 64 = 18446744073709551616 := by decide
                                                    omega)
  rw [e]; omega
theorem low_byte_w (n : Int) : 0 ≤ wrap64 (Go.bits .and .u64 (IntKind.u64.wrap n / 1099511627776) 255) ∧ wrap64 (Go.bits .and .u64 (IntKind.u64.wrap n / 1099511627776) 255) ≤ 255 := by
  have h := low_byte n
  rw [w64 (by omega) (by omega)]; exact h
theorem Next_ (l : List Int) (hl : ∀ x ∈ l, 0 ≤ x ∧ x ≤ 255) (a s : Int) (h0 : 0 ≤ a) (h1 : a ≤ 1152921504606846976) : ∃ v s', spec_l00Src_next.f l a s = some (v, a + 1, s') ∧ 0 ≤ v ∧ v ≤ 255 := by
  unfold spec_l00Src_next.f
  have hw : wrap64 (a + 1) = a + 1 := w64 (by omega) (by omega)
  by_cases c : a < (l.length : Int)
  · have hb := hl _ (rd_mem l a h0 c)
    rw [if_pos c, if_pos h0, hw, if_pos (by omega)]
    exact ⟨_, _, rfl, by rw [w64 (by omega) (by omega)]; omega, by rw [w64 (by omega) (by omega)]; omega⟩
  · rw [if_neg c, hw, if_neg (by omega)]
    exact ⟨_, _, rfl, (low_byte_w _).1, (low_byte_w _).2⟩

theorem Pick_ (l : List Int) (hl : ∀ x ∈ l, 0 ≤ x ∧ x ≤ 255) (a s n : Int) (h0 : 0 ≤ a) (h1 : a ≤ 1000000000000) : ∃ v a' s', spec_l00Src_pick.f l a s n = some (v, a', s') ∧ a ≤ a' ∧ a' ≤ a + 2 ∧ 0 ≤ v ∧ v ≤ 65535 ∧ (1 ≤ n → v < n) ∧ (n ≤ 1 → v = 0) := by
  unfold spec_l00Src_pick.f
  by_cases c : n ≤ 1
  · rw [if_pos c]; exact ⟨0, a, s, rfl, by omega, by omega, by omega, by omega, by omega, by omega⟩
  · obtain ⟨v, s', hv, v0, v1⟩ := Next_ l hl a s h0 (by omega)
    rw [if_neg c, hv]; simp only [Option.bind_some]
    by_cases d : n > 200
    · obtain ⟨u, s2, hu, u0, u1⟩ := Next_ l hl (a + 1) s' (by omega) (by omega)
      rw [if_pos d, hu]; simp only [Option.bind_some]
      rw [if_neg (by omega), w64 (n := v * 256) (by omega) (by omega), w64 (n := v * 256 + u) (by omega) (by omega), tmod_eq _ _ (by omega), if_pos (by omega)]
      have g0 := Int.emod_nonneg (v * 256 + u) (b := n) (by omega)
      have g1 := Int.emod_lt_of_pos (v * 256 + u) (b := n) (by omega)
      have g2 := Int.mul_ediv_add_emod (v * 256 + u) n
      have g3 := Int.mul_nonneg (show 0 ≤ n by omega) (Int.ediv_nonneg (show 0 ≤ v * 256 + u by omega) (show 0 ≤ n by omega))
      exact ⟨_, _, _, rfl, by omega, by omega, g0, by omega, fun _ => g1, fun _ => by omega⟩
    · rw [if_neg d, if_neg (by omega), tmod_eq _ _ (by omega), if_pos (by omega)]
      have g0 := Int.emod_nonneg v (b := n) (by omega)
      have g1 := Int.emod_lt_of_pos v (b := n) (by omega)
      exact ⟨_, _, _, rfl, by omega, by omega, g0, by omega, fun _ => g1, fun _ => by omega⟩

theorem A2Lat_ (l : List Int) (hl : ∀ x ∈ l, 0 ≤ x ∧ x ≤ 255) : ∃ v, spec_A2Lat.f l = some v ∧ -162000 ≤ v ∧ v ≤ 162000 := by
  unfold spec_A2Lat.f spec_l00From.f
  obtain ⟨v, a', s', h, g1, g2, g3, g4, g5, g6⟩ := Pick_ l hl 0 0 181 (by omega) (by omega)
  have := g5 (by omega)
  simp only [Option.bind_some]; rw [h]; simp only [Option.bind_some]
  rw [w64 (n := v - 90) (by omega) (by omega), w64 (n := 1800 * (v - 90)) (by omega) (by omega)]
  exact ⟨_, rfl, by omega, by omega⟩

theorem A2Decl_ (l : List Int) (hl : ∀ x ∈ l, 0 ≤ x ∧ x ≤ 255) : ∃ v, spec_A2Decl.f l = some v ∧ -50000 ≤ v ∧ v ≤ 50000 := by
  unfold spec_A2Decl.f spec_l00From.f
  obtain ⟨v, a', s', h, g1, g2, g3, g4, g5, g6⟩ := Pick_ l hl 0 0 250 (by omega) (by omega)
  have := g5 (by omega)
  simp only [Option.bind_some]; rw [h]; simp only [Option.bind_some]
  rw [w64 (n := v - 125) (by omega) (by omega), w64 (n := 400 * (v - 125)) (by omega) (by omega)]
  exact ⟨_, rfl, by omega, by omega⟩

theorem a2At_ (l : List Int) (hl : ∀ x ∈ l, 0 ≤ x ∧ x ≤ 255) (i n : Int) (h0 : 0 ≤ i) (hn : 1 ≤ n) : ∃ v, laws_a2At.f l i n = some v ∧ 0 ≤ v ∧ v < n := by
  unfold laws_a2At.f
  by_cases c : i ≥ (l.length : Int)
  · rw [if_pos c]; exact ⟨0, rfl, by omega, by omega⟩
  · have hb := hl _ (rd_mem l i h0 (by omega))
    rw [if_neg c, if_neg (by omega), if_pos h0, if_pos (by omega), if_neg (by omega), w64 (by omega) (by omega), tmod_eq _ _ (by omega), if_pos hb.1]
    exact ⟨_, rfl, Int.emod_nonneg _ (by omega), Int.emod_lt_of_pos _ (by omega)⟩

theorem a2Long_ (l0 l1 : List Int) : ∃ b, laws_a2Long.f l0 l1 = some b := by
  unfold laws_a2Long.f; split <;> exact ⟨_, rfl⟩

theorem bytes_of {l : List Int} (h : ∀ x ∈ l, (Lit.int .u8 x).wf = true) : ∀ x ∈ l, 0 ≤ x ∧ x ≤ 255 := by
  intro x hx
  simpa [Lit.wf, IntKind.min, IntKind.max, IntKind.signed, IntKind.bits] using h x hx

theorem FnSettings : laws_FnSettings.Pure := by
  intro l0 l1 _ _ w0 _ _ w1
  have w0 := bytes_of w0
  have w1 := bytes_of w1
  refine ⟨648020, ?_⟩
  unfold laws_FnSettings.f
  obtain ⟨b, hb⟩ := a2Long_ l0 l1
  rw [hb]; simp only [Option.bind_some]
  cases b with
  | true => simp
  | false =>
    simp only [Bool.false_eq_true, if_false]
    obtain ⟨l, e1, l1', l2'⟩ := A2Lat_ l0 w0
    obtain ⟨d, e2, d1, d2⟩ := A2Decl_ l1 w1
    obtain ⟨t, e3, t1, t2⟩ := a2At_ l1 w1 0 181 (by omega) (by omega)
    have hl : -324000 ≤ l ∧ l ≤ 324000 := by omega
    have hd : -324000 ≤ d ∧ d ≤ 324000 := by omega
    have hab : 0 ≤ ab (l - d) ∧ ab (l - d) ≤ 648000 := by unfold ab; split <;> omega
    have hmx : mx (l - d) (d - l) = ab (l - d) := by unfold mx ab; split <;> split <;> omega
    rw [e1, e2]; simp only [Option.bind_some]
    rw [ImplSettingHour_ l d _ (by omega), ImplUpAngle_ l d _ (by omega), ImplAltSine_ l d 0 _ (by omega), ImplNoon_ l d]; simp only [Option.bind_some]
    have hld : (-324000 ≤ l ∧ l ≤ 324000) ∧ (-324000 ≤ d ∧ d ≤ 324000) := ⟨hl, hd⟩
    have hh : ∀ h : Int, 0 ≤ h → h ≤ 648000 → ((-324000 ≤ l ∧ l ≤ 324000) ∧ (-324000 ≤ d ∧ d ≤ 324000) ∧ 0 ≤ h ∧ h ≤ 648000) := fun h a b => ⟨hl, hd, a, b⟩
    simp only [if_pos hld, if_pos (hh 0 (by omega) (by omega)), if_true]
    rw [w64 (n := l - d) (by omega) (by omega), w64 (n := d - l) (by omega) (by omega), hmx, w64 (n := 324000 - ab (l - d)) (by omega) (by omega)]
    simp only [laws_FnSettings.j0, bne_self_eq_false, Bool.false_eq_true, if_false]
    rw [e3]; simp only [Option.bind_some]
    rw [w64 (n := 3600 * t) (by omega) (by omega), ImplAltSine_ l d _ _ (by omega), ImplIsUp_ l d _ _ (by omega)]; simp only [Option.bind_some, if_pos (hh (3600 * t) (by omega) (by omega)), if_true]
    have hmono := alt_hour l d 0 (3600 * t) hl hd (by omega) (by omega) (by omega)
    rw [if_neg (by omega), show (bup l d (3600 * t) != decide (alt l d (3600 * t) ≥ 0)) = false by unfold bup; simp]
    simp only [laws_FnSettings.j1, Bool.false_eq_true, if_false]
    cases h0 : bup l d 0 with
    | false =>
      have hu : bup l d (3600 * t) = false := by
        cases hu : bup l d (3600 * t) with
        | false => rfl
        | true => have := up_hour l d 0 (3600 * t) hl hd (by omega) (by omega) (by omega) hu; simp_all
      have hn : alt l d 0 < 0 := by have h := h0; unfold bup at h; simpa using h
      simp only [Bool.false_eq_true, if_false, if_true]
      rw [if_pos hn, show ang l d = 0 by unfold ang; rw [h0]; simp, if_pos rfl, hu]; rfl
    | true =>
      cases h1 : bup l d 648000 with
      | true =>
        have hu := up_hour l d (3600 * t) 648000 hl hd (by omega) (by omega) (by omega) h1
        simp only [if_true]
        rw [if_neg (by omega), (ang_turn l d hl hd).2 h1, if_pos rfl, hu]
      | false =>
        obtain ⟨a, b, c, e⟩ := setm_one l d h0 h1
        have hm := setm_mono l d hl hd h0 h1 (3600 * t) (by omega) (by omega)
        simp only [if_true, Bool.false_eq_true, if_false]
        rw [if_neg (by omega), if_neg (by omega), if_neg (by omega), if_neg (by omega), show ang l d = 2 * setm l d 1 by unfold ang; rw [h0, h1]; simp, w64 (n := 2 * setm l d 1) (by omega) (by omega), if_pos rfl, hm]
        simp only [laws_FnSettings.j2, bne_self_eq_false, Bool.false_eq_true, if_false]
        rw [w64 (n := setm l d 1 - 1) (by omega) (by omega), ImplIsUp_ l d (setm l d 1 - 1) _ (by omega), ImplIsUp_ l d (setm l d 1) _ (by omega)]; simp only [Option.bind_some, if_pos (hh (setm l d 1 - 1) (by omega) (by omega)), if_pos (hh (setm l d 1) (by omega) (by omega)), if_true]
        rw [c, e]; simp

end Go.Proofs.Ytibbbeidbapfeaa.Pure
