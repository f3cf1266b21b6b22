/- At all drawn loads, places and bounds: the counter load leaves no greater moment than any other one of the same place, and moments add up. No condition. -/
import Derived.Test.YtncejfhmachapaaQFnBalanceOfx8
import Derived.Test.YtncejfhmachapaaBase
import Derived.Test.YtncejfhmachapaaSky
namespace Go.Proofs.Ytncejfhmachapaa.Pure
open Go Go.RowKit Go.Proofs.Ytncejfhmachapaa.QFnBalanceOf Go.Proofs.YtncejfhmachapaaW.PrintWords Go.Proofs.YtncejfhmachapaaW.PrintLast Go.Proofs.YtncejfhmachapaaW.PrintMore Go.Proofs.Ytncejfhmachapaa.Base
set_option linter.unusedVariables false
set_option linter.unusedSimpArgs false

abbrev IL := S64

theorem gd_ext {α : Type} (z : α) (a l : List α) (h : a.length = l.length) (h2 : ∀ j : Int, 0 ≤ j → j < l.length → a.getD j.toNat z = l.getD j.toNat z) : a = l := by
  apply List.ext_getElem h
  intro n h1 h3
  have := h2 n (by omega) (by omega)
  rw [List.getD_eq_getElem?_getD, List.getD_eq_getElem?_getD, Int.toNat_natCast, List.getElem?_eq_getElem h1, List.getElem?_eq_getElem h3] at this
  exact this
theorem gd_same {α : Type} (z : α) (l : List α) (i : Int) (v : α) (h0 : 0 ≤ i) (h : i < l.length) : (l.set i.toNat v).getD i.toNat z = v := by
  simp [List.getD_eq_getElem?_getD, List.getElem?_set, show i.toNat < l.length by omega]
theorem gd_other {α : Type} (z : α) (l : List α) (i j : Int) (v : α) (h0 : 0 ≤ i) (h1 : 0 ≤ j) (h : i ≠ j) : (l.set i.toNat v).getD j.toNat z = l.getD j.toNat z := by
  simp [List.getD_eq_getElem?_getD, List.getElem?_set, show ¬ i.toNat = j.toNat by omega]
theorem gd_in {α : Type} (z : α) (l : List α) (i : Int) (h0 : 0 ≤ i) (h : i < l.length) : l.getD i.toNat z ∈ l := by
  rw [List.getD_eq_getElem?_getD, List.getElem?_eq_getElem (by omega)]
  exact List.getElem_mem _
theorem gd_map {α β : Type} (z : α) (y : β) (f : α → β) (l : List α) (i : Int) (h0 : 0 ≤ i) (h : i < l.length) : (l.map f).getD i.toNat y = f (l.getD i.toNat z) := by
  rw [List.getD_eq_getElem?_getD, List.getD_eq_getElem?_getD, List.getElem?_map, List.getElem?_eq_getElem (by omega)]
  rfl
theorem size64 {n : Nat} (h : n ≤ maxLen) : (n : Int) ≤ 9223372036854775807 := by
  have e : maxLen = 9223372036854775807 := by decide
  omega

theorem gd_drop {α : Type} (z : α) (l : List α) (i : Int) (h0 : 0 ≤ i) (h : i < l.length) : l.drop i.toNat = l.getD i.toNat z :: l.drop (i + 1).toNat := by
  rw [show (i + 1).toNat = i.toNat + 1 by omega, List.drop_eq_getElem_cons (by omega), List.getD_eq_getElem?_getD, List.getElem?_eq_getElem (by omega)]
  rfl

def wx (a b : Int) : Int := near (cs a * cs b) 1000000
def wy (a b : Int) : Int := near (cs a * sn b) 1000000
def gx (x : IL) : Int := x.f0 * wx x.f1.f0 x.f1.f1
def gy (x : IL) : Int := x.f0 * wy x.f1.f0 x.f1.f1
def gz (x : IL) : Int := x.f0 * sn x.f1.f0
def mom (f : IL → Int) (l : List IL) : Int := (l.map f).sum
theorem mom_cons (f : IL → Int) (x : IL) (l : List IL) : mom f (x :: l) = f x + mom f l := by simp [mom]
theorem wx_bounds (a b : Int) : -1000000 ≤ wx a b ∧ wx a b ≤ 1000000 := by
  unfold wx
  have h1 := cs_bounds a; have h2 := cs_bounds b
  have := mul_bounds (cs a) (cs b) 1000000 1000000 h1.1 h1.2 h2.1 h2.2 (by omega) (by omega)
  exact near_bounds _ _ _ (by omega) (by omega) (by omega)
theorem wy_bounds (a b : Int) : -1000000 ≤ wy a b ∧ wy a b ≤ 1000000 := by
  unfold wy
  have h1 := cs_bounds a; have h2 := sn_bounds b
  have := mul_bounds (cs a) (sn b) 1000000 1000000 h1.1 h1.2 h2.1 h2.2 (by omega) (by omega)
  exact near_bounds _ _ _ (by omega) (by omega) (by omega)
theorem okLoad_iff (x : IL) : okLoad x = true ↔ (1 ≤ x.f0 ∧ x.f0 ≤ 1000) ∧ (-324000 ≤ x.f1.f0 ∧ x.f1.f0 ≤ 324000) ∧ (-648000 ≤ x.f1.f1 ∧ x.f1.f1 ≤ 647999) := by
  unfold okLoad; simp
theorem g_bounds (f w : Int) (h1 : 1 ≤ f) (h2 : f ≤ 1000) (h3 : -1000000 ≤ w) (h4 : w ≤ 1000000) : -1000000000 ≤ f * w ∧ f * w ≤ 1000000000 := by
  have := mul_bounds f w 1000 1000000 (by omega) h2 h3 h4 (by omega) (by omega)
  omega
theorem gs_bounds (x : IL) (h : okLoad x = true) : (-1000000000 ≤ gx x ∧ gx x ≤ 1000000000) ∧ (-1000000000 ≤ gy x ∧ gy x ≤ 1000000000) ∧ (-1000000000 ≤ gz x ∧ gz x ≤ 1000000000) := by
  obtain ⟨⟨h1, h2⟩, h3, h4⟩ := (okLoad_iff x).1 h
  have a := wx_bounds x.f1.f0 x.f1.f1; have b := wy_bounds x.f1.f0 x.f1.f1; have c := sn_bounds x.f1.f0
  exact ⟨g_bounds _ _ h1 h2 a.1 a.2, g_bounds _ _ h1 h2 b.1 b.2, g_bounds _ _ h1 h2 c.1 c.2⟩
theorem mom_bounds (f : IL → Int) (hf : ∀ x, okLoad x = true → -1000000000 ≤ f x ∧ f x ≤ 1000000000) : ∀ l : List IL, l.all okLoad = true → -(1000000000 * (l.length : Int)) ≤ mom f l ∧ mom f l ≤ 1000000000 * (l.length : Int)
  | [], _ => by simp [mom]
  | x :: l, h => by
    simp only [List.all_cons, Bool.and_eq_true] at h
    have := hf x h.1; have := mom_bounds f hf l h.2
    rw [mom_cons]; simp only [List.length_cons]; omega

abbrev IP := S62

theorem In_ (a b c : Int) : spec_l00In.f a b c = some (decide (b ≤ a ∧ a ≤ c)) := by
  unfold spec_l00In.f
  by_cases h : a ≥ b
  · rw [if_pos h]; simp [show b ≤ a from h]
  · rw [if_neg h]; simp [show ¬ b ≤ a from h]

def okLs (l : List IL) : Bool := decide ((l.length : Int) ≤ 10) && l.all okLoad
theorem specLoads_l (l : List IL) (hl : l.length ≤ 1048576) : ∀ (d k : Nat) (i : Int), (l.length : Int) - i = d → 0 ≤ i → d < k → spec_l20Ok.l0 k l i = some (decide ((l.length : Int) ≤ 10) && (l.drop i.toNat).all okLoad) := by
  intro d
  induction d with
  | zero =>
    intro k i hd h0 hk
    obtain ⟨k, rfl⟩ : ∃ m, k = m + 1 := ⟨k - 1, by omega⟩
    simp only [spec_l20Ok.l0]; rw [if_neg (by omega), List.drop_eq_nil_of_le (by omega)]; simp
  | succ d ih =>
    intro k i hd h0 hk
    obtain ⟨k, rfl⟩ : ∃ m, k = m + 1 := ⟨k - 1, by omega⟩
    simp only [spec_l20Ok.l0]
    rw [if_pos (by omega), if_pos h0, gd_drop z64 l i h0 (by omega), w64 (by omega) (by omega), ih k (i + 1) (by omega) (by omega) (by omega)]
    show _ = some (decide ((l.length : Int) ≤ 10) && (rd_T64 l i :: l.drop (i + 1).toNat).all okLoad)
    generalize rd_T64 l i = x
    simp only [spec_l02Ok.f, In_, Option.bind_some, List.all_cons, okLoad]
    by_cases h1 : 1 ≤ x.f0 ∧ x.f0 ≤ 1000 <;> by_cases h2 : -324000 ≤ x.f1.f0 ∧ x.f1.f0 ≤ 324000 <;> by_cases h3 : -648000 ≤ x.f1.f1 ∧ x.f1.f1 ≤ 647999 <;> simp [h1, h2, h3]
theorem SpecOk20_ (l : List IL) (hl : l.length ≤ 1048576) (k : Nat) (hk : 1048577 ≤ k) : spec_l20Ok.f k l = some (okLs l) := by
  unfold spec_l20Ok.f okLs
  rw [specLoads_l l hl l.length k 0 (by omega) (by omega) (by omega)]
  simp

theorem okLs_iff (l : List IL) : okLs l = true ↔ (l.length ≤ 10 ∧ l.all okLoad = true) := by
  unfold okLs; simp only [Bool.and_eq_true, decide_eq_true_eq]
  constructor
  · intro h; exact ⟨by omega, h.2⟩
  · intro h; exact ⟨by omega, h.2⟩
theorem moms_bounds (l : List IL) (h : okLs l = true) : (-10000000000 ≤ mom gx l ∧ mom gx l ≤ 10000000000) ∧ (-10000000000 ≤ mom gy l ∧ mom gy l ≤ 10000000000) ∧ (-10000000000 ≤ mom gz l ∧ mom gz l ≤ 10000000000) := by
  obtain ⟨h1, h2⟩ := (okLs_iff l).1 h
  have a := mom_bounds gx (fun x hx => (gs_bounds x hx).1) l h2
  have b := mom_bounds gy (fun x hx => (gs_bounds x hx).2.1) l h2
  have c := mom_bounds gz (fun x hx => (gs_bounds x hx).2.2) l h2
  omega

/-- From some number of rounds on the answer is r. -/
def Ev {α : Type} (g : Nat → Option α) (r : α) : Prop := ∃ K, ∀ k, K ≤ k → g k = some r
theorem Ev.step {α : Type} {g h : Nat → Option α} {r : α} (e : ∀ k, g (k + 1) = h k) (hr : Ev h r) : Ev g r := by
  obtain ⟨K, hK⟩ := hr
  refine ⟨K + 1, fun k hk => ?_⟩
  obtain ⟨k, rfl⟩ : ∃ m, k = m + 1 := ⟨k - 1, by omega⟩
  rw [e]; exact hK k (by omega)
theorem Ev.now {α : Type} {g : Nat → Option α} {r : α} (e : ∀ k, g (k + 1) = some r) : Ev g r := Ev.step (h := fun _ => some r) e ⟨0, fun _ _ => rfl⟩
theorem Ev.bind {α β : Type} {c : Nat → Option α} {f : Nat → α → Option β} {t : α} {r : β} (hc : Ev c t) (hf : Ev (fun k => f k t) r) : Ev (fun k => (c k).bind (f k)) r := by
  obtain ⟨K, hK⟩ := hc
  obtain ⟨L, hL⟩ := hf
  exact ⟨K + L, fun k hk => by show (c k).bind (f k) = some r; rw [hK k (by omega)]; exact hL k (by omega)⟩
theorem Ev.eq {α : Type} {g h : Nat → Option α} {r : α} (e : ∀ k, g k = h k) (hr : Ev h r) : Ev g r := by
  obtain ⟨K, hK⟩ := hr
  exact ⟨K, fun k hk => by rw [e]; exact hK k hk⟩

/-- What is left of a moment with a load at a place. -/
def rest (a b c : Int) (p : IP) (g : Int) : Int := ab (a + g * wx p.f0 p.f1) + ab (b + g * wy p.f0 p.f1) + ab (c + g * sn p.f0)
def stepC (a b c : Int) (p : IP) (i g : Int) (s : Int × Int × Int) : Int × Int × Int := if s.2.2 < 0 then (i, g, rest a b c p g) else if rest a b c p g < s.2.2 then (i, g, rest a b c p g) else s
/-- Loads from g on at one place. -/
def rowC (a b c : Int) (p : IP) (i : Int) : Nat → Int → Int × Int × Int → Int × Int × Int
  | 0, _, s => s
  | d + 1, g, s => rowC a b c p i d (g + 1) (stepC a b c p i g s)
/-- Places from i on. -/
def allC (N : Nat) (a b c : Int) (l : List IP) : Nat → Int → Int × Int × Int → Int × Int × Int
  | 0, _, s => s
  | d + 1, i, s => allC N a b c l d (i + 1) (rowC a b c (rd_T62 l i) i N 1 s)
theorem allC_succ (N : Nat) (a b c : Int) (l : List IP) (d : Nat) (i : Int) (s : Int × Int × Int) : allC N a b c l (d + 1) i s = allC N a b c l d (i + 1) (rowC a b c (rd_T62 l i) i N 1 s) := rfl
theorem okSpot_iff (x : IP) : okSpot x = true ↔ (-324000 ≤ x.f0 ∧ x.f0 ≤ 324000) ∧ (-648000 ≤ x.f1 ∧ x.f1 ≤ 647999) := by unfold okSpot; simp
theorem abs_bounds (x B : Int) (h : -B ≤ x ∧ x ≤ B) : 0 ≤ ab x ∧ ab x ≤ B := by unfold ab; split <;> omega
theorem okAt (l : List IP) (h : l.all okSpot = true) (i : Int) (h0 : 0 ≤ i) (h1 : i < l.length) : okSpot (rd_T62 l i) = true := by
  refine List.all_eq_true.1 h _ ?_
  unfold rd_T62
  rw [List.getD_eq_getElem?_getD, List.getElem?_eq_getElem (by omega)]
  exact List.getElem_mem _

theorem Floor_ (a b : Int) (hb : 0 < b) (ha : -4611686018427387904 ≤ a) (ha2 : a ≤ 4611686018427387904) : spec_l00Floor.f a b = some (a / b) := by
  unfold spec_l00Floor.f
  rw [if_neg (by omega)]
  obtain ⟨h1, h2⟩ := ediv_bounds a b 4611686018427387904 hb ha ha2 (by omega)
  have e := floor_eq a b hb
  by_cases c : Int.tmod a b < 0
  · rw [if_pos c] at e ⊢; rw [w64 (n := Int.tdiv a b) (by omega) (by omega), w64 (by omega) (by omega), e]
  · rw [if_neg c] at e ⊢; rw [w64 (by omega) (by omega), e]

theorem Round_ (a b : Int) (hb : 0 < b) (hb2 : b ≤ 100000000000000000) (ha : -2000000000000000000 ≤ a) (ha2 : a ≤ 2000000000000000000) : spec_l00Round.f a b = some (near a b) := by
  unfold spec_l00Round.f
  rw [w64 (n := 2 * a) (by omega) (by omega), w64 (n := 2 * a + b) (by omega) (by omega), w64 (n := 2 * b) (by omega) (by omega), Floor_ _ _ (by omega) (by omega) (by omega)]
  rfl

theorem SpecSine_lo (k : Nat) (hk : 2 ≤ k) (x : Int) (h0 : 0 ≤ x) (h1 : x ≤ 648000) : spec_l03Sine.f k x = some (sn0 x) := by
  obtain ⟨k, rfl⟩ : ∃ m, k = m + 2 := ⟨k - 2, by omega⟩
  have tm : Int.tmod x 1296000 = x := by rw [tmod_eq _ _ (by omega), if_pos h0]; omega
  simp only [spec_l03Sine.f]
  rw [tm, if_neg (by omega)]
  simp only [spec_l03Sine.j0]
  rw [if_neg (by omega), w64 (n := 648000 - x) (by omega) (by omega)]
  have hp := pp_bounds x h0 h1
  rw [show x * (648000 - x) = pp x from rfl, w64 (n := pp x) (by omega) (by omega), w64 (n := 16 * pp x) (by omega) (by omega), w64 (n := 16 * pp x * 1000000) (by omega) (by omega), w64 (n := 5 * 648000) (by omega) (by omega), w64 (n := 5 * 648000 * 648000) (by omega) (by omega), w64 (n := 4 * pp x) (by omega) (by omega), w64 (n := 5 * 648000 * 648000 - 4 * pp x) (by omega) (by omega), Round_ _ _ (by omega) (by omega) (by omega) (by omega)]
  simp only [Option.bind_some]
  unfold sn0 sp
  rw [show 16 * pp x * 1000000 = 16000000 * pp x by omega, show 5 * 648000 * 648000 - 4 * pp x = 2099520000000 - 4 * pp x by omega]

theorem SpecSine_j (k : Nat) (hk : 3 ≤ k) (x : Int) (h0 : 0 ≤ x) (h1 : x < 1296000) : spec_l03Sine.j0 k 648000 x = some (if x ≥ 648000 then -(sn0 (x - 648000)) else sn0 x) := by
  by_cases c : x > 648000
  · obtain ⟨k, rfl⟩ : ∃ m, k = m + 1 := ⟨k - 1, by omega⟩
    simp only [spec_l03Sine.j0]
    have := sn0_bounds (x - 648000) (by omega) (by omega)
    rw [if_pos c, w64 (n := x - 648000) (by omega) (by omega), SpecSine_lo k (by omega) _ (by omega) (by omega)]
    simp only [Option.bind_some]
    rw [w64 (by omega) (by omega), if_pos (by omega)]
  · have h := SpecSine_lo (k + 1) (by omega) x h0 (by omega)
    have tm : Int.tmod x 1296000 = x := by rw [tmod_eq _ _ (by omega), if_pos h0]; omega
    simp only [spec_l03Sine.f] at h
    rw [tm, if_neg (by omega)] at h
    rw [h]
    by_cases e : x = 648000
    · subst e; decide
    · rw [if_neg (by omega)]

theorem SpecSine_ (k : Nat) (hk : 6 ≤ k) (a : Int) : spec_l03Sine.f k a = some (sn a) := by
  obtain ⟨k, rfl⟩ : ∃ m, k = m + 1 := ⟨k - 1, by omega⟩
  simp only [spec_l03Sine.f]
  have tm := tmod_eq a 1296000 (by omega)
  by_cases c : Int.tmod a 1296000 < 0
  · have e : Int.tmod a 1296000 + 1296000 = a % 1296000 := by rw [tm] at c ⊢; split at c <;> omega
    rw [if_pos c, e, w64 (by omega) (by omega), SpecSine_j k (by omega) _ (by omega) (by omega)]; rfl
  · have e : Int.tmod a 1296000 = a % 1296000 := by rw [tm] at c ⊢; split at c <;> omega
    rw [if_neg c, e, SpecSine_j k (by omega) _ (by omega) (by omega)]; rfl

theorem SpecCosine_ (k : Nat) (hk : 6 ≤ k) (a : Int) (h0 : -4611686018427387904 ≤ a) (h1 : a ≤ 4611686018427387904) : spec_l03Cosine.f k a = some (cs a) := by
  unfold spec_l03Cosine.f
  rw [w64 (by omega) (by omega), SpecSine_ k hk]; rfl

theorem SpecWays_ (k : Nat) (hk : 6 ≤ k) (a b : Int) (ha : -324000 ≤ a ∧ a ≤ 324000) (hb : -648000 ≤ b ∧ b ≤ 647999) : spec_l20Ways.f k a b = some [wx a b, wy a b, sn a] := by
  unfold spec_l20Ways.f
  rw [SpecCosine_ k hk _ (by omega) (by omega), SpecCosine_ k hk _ (by omega) (by omega), SpecSine_ k hk, SpecSine_ k hk]; simp only [Option.bind_some]
  have h1 := cs_bounds a; have h2 := cs_bounds b; have h3 := sn_bounds b
  have m1 := mul_bounds (cs a) (cs b) 1000000 1000000 h1.1 h1.2 h2.1 h2.2 (by omega) (by omega)
  have m2 := mul_bounds (cs a) (sn b) 1000000 1000000 h1.1 h1.2 h3.1 h3.2 (by omega) (by omega)
  rw [w64 (n := cs a * cs b) (by omega) (by omega), w64 (n := cs a * sn b) (by omega) (by omega), Round_ _ _ (by omega) (by omega) (by omega) (by omega), Round_ _ _ (by omega) (by omega) (by omega) (by omega)]
  rfl
theorem specMom_step (k : Nat) (l : List IL) (x3 x5 : List Int) (i j : Int) (h3 : x3.length = 3) (h5 : x5.length = 3) (j0 : 0 ≤ j) (j1 : j < 3) (i0 : 0 ≤ i) (i1 : i < l.length) : spec_l20Moment.l1 (k + 1) l x3 i x5 j = spec_l20Moment.l1 k l (x3.set j.toNat (wrap64 (rd x3 j + wrap64 ((rd_T64 l i).f0 * rd x5 j)))) i x5 (j + 1) := by
  simp only [spec_l20Moment.l1]
  rw [if_pos j1, if_pos j0, if_pos (by omega), if_pos i0, if_pos i1, if_pos (by omega), w64 (n := j + 1) (by omega) (by omega)]
theorem specMom_end (k : Nat) (l : List IL) (x3 x5 : List Int) (i : Int) (i0 : 0 ≤ i) (i1 : i < 1000000) : spec_l20Moment.l1 (k + 1) l x3 i x5 3 = spec_l20Moment.l0 k l x3 (i + 1) := by
  simp only [spec_l20Moment.l1]
  rw [if_neg (by omega), w64 (n := i + 1) (by omega) (by omega)]
theorem specMom_3 (k : Nat) (l : List IL) (a b c x y z : Int) (i : Int) (i0 : 0 ≤ i) (i1 : i < l.length) (i2 : i < 1000000) : spec_l20Moment.l1 (k + 1 + 1 + 1 + 1) l [a, b, c] i [x, y, z] 0 = spec_l20Moment.l0 k l [wrap64 (a + wrap64 ((rd_T64 l i).f0 * x)), wrap64 (b + wrap64 ((rd_T64 l i).f0 * y)), wrap64 (c + wrap64 ((rd_T64 l i).f0 * z))] (i + 1) := by
  rw [specMom_step _ _ _ _ _ _ rfl rfl (by omega) (by omega) i0 i1, specMom_step _ _ _ _ _ _ rfl rfl (by omega) (by omega) i0 i1, specMom_step _ _ _ _ _ _ rfl rfl (by omega) (by omega) i0 i1]
  show spec_l20Moment.l1 (k + 1) l _ i _ 3 = _
  rw [specMom_end _ _ _ _ _ i0 i2]
  rfl
theorem specMom_l (l : List IL) (hl : l.length ≤ 10) (ho : l.all okLoad = true) : ∀ (d k : Nat) (i a b c : Int), (l.length : Int) - i = d → 0 ≤ i → (-(1000000000 * i) ≤ a ∧ a ≤ 1000000000 * i) → (-(1000000000 * i) ≤ b ∧ b ≤ 1000000000 * i) → (-(1000000000 * i) ≤ c ∧ c ≤ 1000000000 * i) → 6 * d + 20 < k →
    spec_l20Moment.l0 k l [a, b, c] i = some [a + mom gx (l.drop i.toNat), b + mom gy (l.drop i.toNat), c + mom gz (l.drop i.toNat)] := by
  intro d
  induction d with
  | zero =>
    intro k i a b c hd h0 ha hb hc hk
    obtain ⟨k, rfl⟩ : ∃ m, k = m + 1 := ⟨k - 1, by omega⟩
    simp only [spec_l20Moment.l0]
    rw [if_neg (by omega), List.drop_eq_nil_of_le (by omega)]
    simp [mom]
  | succ d ih =>
    intro k i a b c hd h0 ha hb hc hk
    obtain ⟨k, rfl⟩ : ∃ m, k = m + 1 + 1 + 1 + 1 + 1 := ⟨k - 5, by omega⟩
    have hx : okLoad (rd_T64 l i) = true := List.all_eq_true.1 ho _ (by
      have := gd_drop z64 l i h0 (by omega)
      have hm : l.getD i.toNat z64 ∈ l.drop i.toNat := by rw [this]; exact List.mem_cons_self
      exact List.mem_of_mem_drop hm)
    obtain ⟨o1, o2, o3⟩ := (okLoad_iff _).1 hx
    obtain ⟨b1, b2, b3⟩ := gs_bounds _ hx
    rw [show spec_l20Moment.l0 (k + 1 + 1 + 1 + 1 + 1) l [a, b, c] i = (if i < (l.length : Int) then (if 0 ≤ i then ((spec_l20Ways.f (k + 1 + 1 + 1 + 1) ((rd_T64 l i).f1.f0) ((rd_T64 l i).f1.f1)).bind fun t => (spec_l20Moment.l1 (k + 1 + 1 + 1 + 1) l [a, b, c] i t 0)) else (none)) else (some [a, b, c])) from by simp only [spec_l20Moment.l0]]
    rw [if_pos (by omega), if_pos h0, SpecWays_ _ (by omega) _ _ o2 o3]; simp only [Option.bind_some]
    rw [specMom_3 _ _ _ _ _ _ _ _ _ h0 (by omega) (by omega), show l.drop i.toNat = rd_T64 l i :: l.drop (i + 1).toNat from gd_drop z64 l i h0 (by omega), mom_cons, mom_cons, mom_cons]
    unfold gx at b1; unfold gy at b2; unfold gz at b3
    rw [w64 (n := (rd_T64 l i).f0 * wx _ _) (by omega) (by omega), w64 (n := (rd_T64 l i).f0 * wy _ _) (by omega) (by omega), w64 (n := (rd_T64 l i).f0 * sn _) (by omega) (by omega), w64 (n := a + _) (by omega) (by omega), w64 (n := b + _) (by omega) (by omega), w64 (n := c + _) (by omega) (by omega)]
    rw [ih k (i + 1) _ _ _ (by omega) (by omega) (by omega) (by omega) (by omega) (by omega)]
    congr 1
    unfold gx gy gz
    simp only [List.cons.injEq, and_true]
    refine ⟨by omega, by omega, by omega⟩
theorem SpecMom_ (l : List IL) (hl : l.length ≤ 10) (ho : l.all okLoad = true) (k : Nat) (hk : 100 ≤ k) : spec_l20Moment.f k l = some [mom gx l, mom gy l, mom gz l] := by
  unfold spec_l20Moment.f
  rw [specMom_l l hl ho l.length k 0 0 0 0 (by omega) (by omega) (by omega) (by omega) (by omega) (by omega)]
  simp

theorem Size_ (a : Int) (ha : -9223372036854775807 ≤ a) (ha2 : a ≤ 9223372036854775807) : spec_l00Size.f a = some (ab a) := by
  unfold spec_l00Size.f ab
  by_cases h : a < 0
  · rw [if_pos h, if_pos h, w64 (by omega) (by omega)]
  · rw [if_neg h, if_neg h]

theorem SpecRest_ (k : Nat) (hk : 6 ≤ k) (a b c : Int) (ha : -10000000000 ≤ a ∧ a ≤ 10000000000) (hb : -10000000000 ≤ b ∧ b ≤ 10000000000) (hc : -10000000000 ≤ c ∧ c ≤ 10000000000) (p : IP) (hp : okSpot p = true) (g : Int) (g0 : 1 ≤ g) (g1 : g ≤ 1000) : spec_l20Rest.f k [a, b, c] p.f0 p.f1 g = some (rest a b c p g) := by
  obtain ⟨p1, p2⟩ := (okSpot_iff p).1 hp
  have w1 := wx_bounds p.f0 p.f1; have w2 := wy_bounds p.f0 p.f1; have w3 := sn_bounds p.f0
  have b1 := g_bounds g _ g0 g1 w1.1 w1.2; have b2 := g_bounds g _ g0 g1 w2.1 w2.2; have b3 := g_bounds g _ g0 g1 w3.1 w3.2
  unfold spec_l20Rest.f
  rw [SpecWays_ k hk _ _ p1 p2]; simp only [Option.bind_some]
  rw [show rd [a, b, c] 0 = a from rfl, show rd [a, b, c] 1 = b from rfl, show rd [a, b, c] 2 = c from rfl, show rd [wx p.f0 p.f1, wy p.f0 p.f1, sn p.f0] 0 = wx p.f0 p.f1 from rfl, show rd [wx p.f0 p.f1, wy p.f0 p.f1, sn p.f0] 1 = wy p.f0 p.f1 from rfl, show rd [wx p.f0 p.f1, wy p.f0 p.f1, sn p.f0] 2 = sn p.f0 from rfl]
  rw [w64 (n := g * wx p.f0 p.f1) (by omega) (by omega), w64 (n := g * wy p.f0 p.f1) (by omega) (by omega), w64 (n := g * sn p.f0) (by omega) (by omega), w64 (n := a + _) (by omega) (by omega), w64 (n := b + _) (by omega) (by omega), w64 (n := c + _) (by omega) (by omega), Size_ _ (by omega) (by omega), Size_ _ (by omega) (by omega), Size_ _ (by omega) (by omega)]
  have a1 := abs_bounds (a + g * wx p.f0 p.f1) 11000000000 (by omega)
  have a2 := abs_bounds (b + g * wy p.f0 p.f1) 11000000000 (by omega)
  have a3 := abs_bounds (c + g * sn p.f0) 11000000000 (by omega)
  simp only [Option.bind_some, List.length_cons, List.length_nil]
  rw [w64 (n := ab (a + g * wx p.f0 p.f1) + ab (b + g * wy p.f0 p.f1)) (by omega) (by omega), w64 (n := ab (a + g * wx p.f0 p.f1) + ab (b + g * wy p.f0 p.f1) + ab (c + g * sn p.f0)) (by omega) (by omega)]
  rfl
section
variable (a b c : Int) (ha : -10000000000 ≤ a ∧ a ≤ 10000000000) (hb : -10000000000 ≤ b ∧ b ≤ 10000000000) (hc : -10000000000 ≤ c ∧ c ≤ 10000000000) (l : List IP) (hl : l.length ≤ 10) (ho : l.all okSpot = true)
include ha hb hc hl ho in
theorem specCounter_2 (i : Int) (i0 : 0 ≤ i) (i1 : i < l.length) (r : Int × Int × Int) : ∀ (d : Nat) (g : Int) (s : Int × Int × Int), 1001 - g = d → 1 ≤ g → Ev (fun k => spec_CounterLoad.l1 k l [a, b, c] (rowC a b c (rd_T62 l i) i d g s).1 (rowC a b c (rd_T62 l i) i d g s).2.1 (rowC a b c (rd_T62 l i) i d g s).2.2 (i + 1)) r → Ev (fun k => spec_CounterLoad.l2 k l [a, b, c] s.1 s.2.1 s.2.2 i g) r := by
  intro d
  induction d with
  | zero =>
    intro g s hd hg hr
    refine Ev.step (fun k => ?_) hr
    simp only [spec_CounterLoad.l2]
    rw [if_neg (by omega), w64 (n := i + 1) (by omega) (by omega)]; rfl
  | succ d ih =>
    intro g s hd hg hr
    obtain ⟨K, hK⟩ := ih (g + 1) (stepC a b c (rd_T62 l i) i g s) (by omega) (by omega) hr
    refine ⟨K + 10, fun k hk => ?_⟩
    obtain ⟨k, rfl⟩ : ∃ m, k = m + 1 := ⟨k - 1, by omega⟩
    have := hK k (by omega)
    simp only [] at this
    simp only [spec_CounterLoad.l2]
    rw [if_pos (by omega), if_pos i0, if_pos i1, SpecRest_ k (by omega) a b c ha hb hc _ (okAt l ho i i0 i1) g hg (by omega)]; simp only [Option.bind_some]
    rw [w64 (n := g + 1) (by omega) (by omega)]
    unfold stepC at this
    by_cases c1 : s.2.2 < 0
    · rw [if_pos c1] at this ⊢; exact this
    · rw [if_neg c1] at this ⊢
      by_cases c2 : rest a b c (rd_T62 l i) g < s.2.2
      · rw [if_pos c2] at this ⊢; exact this
      · rw [if_neg c2] at this ⊢; exact this
include ha hb hc hl ho in
theorem specCounter_1 (N : Nat) (hN : N = 1000) : ∀ (d : Nat) (i : Int) (s : Int × Int × Int), (l.length : Int) - i = d → 0 ≤ i → Ev (fun k => spec_CounterLoad.l1 k l [a, b, c] s.1 s.2.1 s.2.2 i) ((allC N a b c l d i s).1, (allC N a b c l d i s).2.1, 0) := by
  intro d
  induction d with
  | zero =>
    intro i s hd hi
    refine Ev.now (fun k => ?_)
    simp only [spec_CounterLoad.l1]
    rw [if_neg (by omega)]; rfl
  | succ d ih =>
    intro i s hd hi
    rw [allC_succ]
    refine Ev.step (h := fun k => spec_CounterLoad.l2 k l [a, b, c] s.1 s.2.1 s.2.2 i 1) (fun k => ?_) (specCounter_2 a b c ha hb hc l hl ho i hi (by omega) _ N 1 s (by omega) (by omega) (ih (i + 1) _ (by omega) (by omega)))
    simp only [spec_CounterLoad.l1]
    rw [if_pos (by omega)]
end
def counterR (x : List IL) (l : List IP) : Int × Int × Int := if okLs x = true ∧ l.all okSpot = true then (if (l.length : Int) ≤ 10 then (if (l.length : Int) = 0 then (0, 0, 3) else ((allC 1000 (mom gx x) (mom gy x) (mom gz x) l l.length 0 (0, 0, -1)).1, (allC 1000 (mom gx x) (mom gy x) (mom gz x) l l.length 0 (0, 0, -1)).2.1, 0)) else (0, 0, 2)) else (0, 0, 1)
theorem specCounter_0 (x : List IL) (l : List IP) (hx : okLs x = true) (hl : l.length ≤ 1048576) : ∀ (d : Nat) (i : Int), (l.length : Int) - i = d → 0 ≤ i → (∀ j : Int, 0 ≤ j → j < i → okSpot (rd_T62 l j) = true) → Ev (fun k => spec_CounterLoad.l0 k x l i) (counterR x l) := by
  obtain ⟨o1, o2⟩ := (okLs_iff x).1 hx
  obtain ⟨b1, b2, b3⟩ := moms_bounds x hx
  intro d
  induction d with
  | zero =>
    intro i hd hi hp
    have ho : l.all okSpot = true := by
      rw [List.all_eq_true]
      intro y hy
      obtain ⟨j, hj, rfl⟩ := List.getElem_of_mem hy
      have := hp (j : Int) (by omega) (by omega)
      unfold rd_T62 at this
      rw [Int.toNat_natCast, List.getD_eq_getElem?_getD, List.getElem?_eq_getElem hj] at this
      exact this
    unfold counterR
    rw [if_pos ⟨hx, ho⟩]
    by_cases c1 : (l.length : Int) ≤ 10
    · by_cases c2 : (l.length : Int) = 0
      · rw [if_pos c1, if_pos c2]
        refine Ev.now (fun k => ?_)
        simp only [spec_CounterLoad.l0]
        rw [if_neg (by omega), if_neg (by omega), if_pos c2]
      · rw [if_pos c1, if_neg c2]
        refine Ev.step (h := fun k => (spec_l20Moment.f k x).bind fun t => spec_CounterLoad.l1 k l t 0 0 (-1) 0) (fun k => ?_) (Ev.bind (t := [mom gx x, mom gy x, mom gz x]) ⟨100, fun k hk => SpecMom_ x o1 o2 k hk⟩ (specCounter_1 _ _ _ b1 b2 b3 l (by omega) ho 1000 rfl l.length 0 (0, 0, -1) (by omega) (by omega)))
        simp only [spec_CounterLoad.l0]
        rw [if_neg (by omega), if_neg (by omega), if_neg c2]
    · rw [if_neg c1]
      refine Ev.now (fun k => ?_)
      simp only [spec_CounterLoad.l0]
      rw [if_neg (by omega), if_pos (by omega)]
  | succ d ih =>
    intro i hd hi hp
    have e : ∀ k, spec_CounterLoad.l0 (k + 1) x l i = if okSpot (rd_T62 l i) = true then spec_CounterLoad.l0 k x l (i + 1) else some (0, 0, 1) := by
      intro k
      simp only [spec_CounterLoad.l0, spec_l02Ok.f, In_, Option.bind_some]
      rw [if_pos (by omega), if_pos hi, w64 (n := i + 1) (by omega) (by omega)]
      have := okSpot_iff (rd_T62 l i)
      by_cases h2 : -324000 ≤ (rd_T62 l i).f0 ∧ (rd_T62 l i).f0 ≤ 324000 <;> by_cases h3 : -648000 ≤ (rd_T62 l i).f1 ∧ (rd_T62 l i).f1 ≤ 647999 <;> simp [h2, h3, this]
    by_cases c : okSpot (rd_T62 l i) = true
    · refine Ev.step (h := fun k => spec_CounterLoad.l0 k x l (i + 1)) (fun k => by rw [e, if_pos c]) (ih (i + 1) (by omega) (by omega) (fun j j0 j1 => ?_))
      by_cases e2 : j = i
      · subst e2; exact c
      · exact hp j j0 (by omega)
    · have : counterR x l = (0, 0, 1) := by
        unfold counterR
        rw [if_neg (fun h => c (okAt l h.2 i hi (by omega)))]
      rw [this]
      exact Ev.now (fun k => by rw [e, if_neg c])
theorem SpecCounter_ (x : List IL) (l : List IP) (hx : x.length ≤ 1048576) (hl : l.length ≤ 1048576) : Ev (fun k => spec_CounterLoad.f k x l) (counterR x l) := by
  by_cases h : okLs x = true
  · refine Ev.eq (h := fun k => (spec_l20Ok.f k x).bind fun t => if t = true then spec_CounterLoad.l0 k x l 0 else some (0, 0, 1)) (fun k => rfl) (Ev.bind (t := true) ⟨1048577, fun k hk => (by rw [SpecOk20_ x hx k hk, h] : spec_l20Ok.f k x = some true)⟩ (Ev.eq (fun k => by rw [if_pos rfl]) (specCounter_0 x l h hl l.length 0 (by omega) (by omega) (fun j a b => by omega))))
  · refine ⟨1048577, fun k hk => ?_⟩
    unfold counterR
    rw [if_neg (fun c => h c.1)]
    simp only [spec_CounterLoad.f]
    rw [SpecOk20_ x hx k hk]; simp only [Option.bind_some, if_neg h]

theorem floorDiv_ (a b : Int) (hb : 0 < b) (ha : -4611686018427387904 ≤ a) (ha2 : a ≤ 4611686018427387904) : impl_floorDiv.f a b = some (a / b) := by
  unfold impl_floorDiv.f
  rw [if_neg (by omega)]
  obtain ⟨h1, h2⟩ := ediv_bounds a b 4611686018427387904 hb ha ha2 (by omega)
  have e := floor_eq a b hb
  by_cases c : Int.tmod a b < 0
  · rw [if_pos c] at e ⊢; rw [w64 (n := Int.tdiv a b) (by omega) (by omega), w64 (by omega) (by omega), e]
  · rw [if_neg c] at e ⊢; rw [w64 (by omega) (by omega), e]

theorem nearest_ (a b : Int) (hb : 0 < b) (hb2 : b ≤ 100000000000000000) (ha : -2000000000000000000 ≤ a) (ha2 : a ≤ 2000000000000000000) : impl_nearest.f a b = some (near a b) := by
  unfold impl_nearest.f
  rw [w64 (n := 2 * a) (by omega) (by omega), w64 (n := 2 * a + b) (by omega) (by omega), w64 (n := 2 * b) (by omega) (by omega), floorDiv_ _ _ (by omega) (by omega) (by omega)]
  rfl

theorem around_ (a : Int) (ha : -9223372036854775808 ≤ a) (ha2 : a ≤ 9223372036854775807) : impl_around.f a = some (a % 1296000) := by
  unfold impl_around.f
  have h1 : Int.tmod a 1296000 = if 0 ≤ a then a % 1296000 else -(-a % 1296000) := tmod_eq _ _ (by omega)
  have h2 : -1296000 < Int.tmod a 1296000 ∧ Int.tmod a 1296000 < 1296000 := by rw [h1]; split <;> omega
  rw [w64 (n := Int.tmod a 1296000 + 1296000) (by omega) (by omega), tmod_eq _ _ (by omega), if_pos (by omega), h1]
  split
  · congr 1; omega
  · congr 1; omega

theorem ImplSine_lo (k : Nat) (hk : 1 ≤ k) (x : Int) (h0 : 0 ≤ x) (h1 : x < 648000) : impl_sine.f k x = some (sn0 x) := by
  obtain ⟨k, rfl⟩ : ∃ m, k = m + 1 := ⟨k - 1, by omega⟩
  simp only [impl_sine.f]
  rw [around_ _ (by omega) (by omega)]; simp only [Option.bind_some]
  rw [show x % 1296000 = x by omega, if_neg (by omega), w64 (n := 648000 - x) (by omega) (by omega)]
  have hp := pp_bounds x h0 (by omega)
  rw [show x * (648000 - x) = pp x from rfl, w64 (n := pp x) (by omega) (by omega), w64 (n := 16000000 * pp x) (by omega) (by omega), w64 (n := 4 * pp x) (by omega) (by omega), w64 (n := 2099520000000 - 4 * pp x) (by omega) (by omega), nearest_ _ _ (by omega) (by omega) (by omega) (by omega)]
  rfl

theorem ImplSine_ (k : Nat) (hk : 6 ≤ k) (a : Int) (h0 : -9223372036854775808 ≤ a) (h1 : a ≤ 9223372036854775807) : impl_sine.f k a = some (sn a) := by
  by_cases c : a % 1296000 ≥ 648000
  · obtain ⟨k, rfl⟩ : ∃ m, k = m + 1 := ⟨k - 1, by omega⟩
    simp only [impl_sine.f]
    rw [around_ _ h0 h1]; simp only [Option.bind_some]
    have := sn0_bounds (a % 1296000 - 648000) (by omega) (by omega)
    rw [if_pos c, w64 (n := a % 1296000 - 648000) (by omega) (by omega), ImplSine_lo k (by omega) _ (by omega) (by omega)]
    simp only [Option.bind_some]
    rw [w64 (by omega) (by omega)]; unfold sn; rw [if_pos c]
  · have h := ImplSine_lo k (by omega) (a % 1296000) (by omega) (by omega)
    obtain ⟨k, rfl⟩ : ∃ m, k = m + 1 := ⟨k - 1, by omega⟩
    simp only [impl_sine.f] at h ⊢
    rw [around_ _ (by omega) (by omega)] at h; rw [around_ _ h0 h1]
    rw [show a % 1296000 % 1296000 = a % 1296000 by omega] at h
    unfold sn; rw [if_neg c]; exact h

theorem ImplCosine_ (k : Nat) (hk : 6 ≤ k) (a : Int) (h0 : -4611686018427387904 ≤ a) (h1 : a ≤ 4611686018427387904) : impl_cosine.f k a = some (cs a) := by
  unfold impl_cosine.f
  rw [w64 (by omega) (by omega), ImplSine_ k hk _ (by omega) (by omega)]; rfl

theorem ImplWith_ (k : Nat) (hk : 6 ≤ k) (a b c la lo g : Int) (ha : -324000 ≤ la ∧ la ≤ 324000) (hb : -648000 ≤ lo ∧ lo ≤ 647999) (hg : 1 ≤ g ∧ g ≤ 1000) (h1 : -1000000000000 ≤ a ∧ a ≤ 1000000000000) (h2 : -1000000000000 ≤ b ∧ b ≤ 1000000000000) (h3 : -1000000000000 ≤ c ∧ c ≤ 1000000000000) :
    impl_moment_with.f k a b c la lo g = some (a + g * wx la lo, b + g * wy la lo, c + g * sn la) := by
  unfold impl_moment_with.f
  rw [ImplCosine_ k hk _ (by omega) (by omega), ImplCosine_ k hk _ (by omega) (by omega), ImplSine_ k hk _ (by omega) (by omega), ImplSine_ k hk _ (by omega) (by omega)]; simp only [Option.bind_some]
  have q1 := cs_bounds la; have q2 := cs_bounds lo; have q3 := sn_bounds lo
  have m1 := mul_bounds (cs la) (cs lo) 1000000 1000000 q1.1 q1.2 q2.1 q2.2 (by omega) (by omega)
  have m2 := mul_bounds (cs la) (sn lo) 1000000 1000000 q1.1 q1.2 q3.1 q3.2 (by omega) (by omega)
  rw [w64 (n := cs la * cs lo) (by omega) (by omega), w64 (n := cs la * sn lo) (by omega) (by omega), nearest_ _ _ (by omega) (by omega) (by omega) (by omega), nearest_ _ _ (by omega) (by omega) (by omega) (by omega)]; simp only [Option.bind_some]
  rw [show near (cs la * cs lo) 1000000 = wx la lo from rfl, show near (cs la * sn lo) 1000000 = wy la lo from rfl]
  have w1 := wx_bounds la lo; have w2 := wy_bounds la lo; have w3 := sn_bounds la
  have g1 := g_bounds g _ hg.1 hg.2 w1.1 w1.2; have g2 := g_bounds g _ hg.1 hg.2 w2.1 w2.2; have g3 := g_bounds g _ hg.1 hg.2 w3.1 w3.2
  rw [w64 (n := g * wx la lo) (by omega) (by omega), w64 (n := g * wy la lo) (by omega) (by omega), w64 (n := g * sn la) (by omega) (by omega), w64 (n := a + _) (by omega) (by omega), w64 (n := b + _) (by omega) (by omega), w64 (n := c + _) (by omega) (by omega)]
theorem implMom_l (l : List IL) (hl : l.length ≤ 10) (ho : l.all okLoad = true) : ∀ (d k : Nat) (i a b c : Int), (l.length : Int) - i = d → 0 ≤ i → (-(1000000000 * i) ≤ a ∧ a ≤ 1000000000 * i) → (-(1000000000 * i) ≤ b ∧ b ≤ 1000000000 * i) → (-(1000000000 * i) ≤ c ∧ c ≤ 1000000000 * i) → d + 20 < k →
    impl_momentOf.l0 k l (l.length : Int) i a b c = some (a + mom gx (l.drop i.toNat), b + mom gy (l.drop i.toNat), c + mom gz (l.drop i.toNat)) := by
  intro d
  induction d with
  | zero =>
    intro k i a b c hd h0 ha hb hc hk
    obtain ⟨k, rfl⟩ : ∃ m, k = m + 1 := ⟨k - 1, by omega⟩
    simp only [impl_momentOf.l0]
    rw [if_neg (by omega), List.drop_eq_nil_of_le (by omega)]
    simp [mom]
  | succ d ih =>
    intro k i a b c hd h0 ha hb hc hk
    obtain ⟨k, rfl⟩ : ∃ m, k = m + 1 := ⟨k - 1, by omega⟩
    have hx : okLoad (rd_T64 l i) = true := List.all_eq_true.1 ho _ (by
      have := gd_drop z64 l i h0 (by omega)
      have hm : l.getD i.toNat z64 ∈ l.drop i.toNat := by rw [this]; exact List.mem_cons_self
      exact List.mem_of_mem_drop hm)
    obtain ⟨o1, o2, o3⟩ := (okLoad_iff _).1 hx
    obtain ⟨b1, b2, b3⟩ := gs_bounds _ hx
    simp only [impl_momentOf.l0]
    rw [if_pos (by omega), if_pos h0, if_pos (by omega), ImplWith_ k (by omega) _ _ _ _ _ _ o2 o3 o1 (by omega) (by omega) (by omega)]; simp only [Option.bind_some]
    unfold gx at b1; unfold gy at b2; unfold gz at b3
    rw [w64 (n := i + 1) (by omega) (by omega), ih k (i + 1) _ _ _ (by omega) (by omega) (by omega) (by omega) (by omega) (by omega), show l.drop i.toNat = rd_T64 l i :: l.drop (i + 1).toNat from gd_drop z64 l i h0 (by omega), mom_cons, mom_cons, mom_cons]
    congr 1
    unfold gx gy gz
    simp only [Prod.mk.injEq]
    refine ⟨by omega, by omega, by omega⟩
theorem ImplMom_ (l : List IL) (hl : l.length ≤ 10) (ho : l.all okLoad = true) (k : Nat) (hk : 100 ≤ k) : impl_momentOf.f k l = some (mom gx l, mom gy l, mom gz l) := by
  unfold impl_momentOf.f
  rw [implMom_l l hl ho l.length k 0 0 0 0 (by omega) (by omega) (by omega) (by omega) (by omega) (by omega)]
  simp

theorem absolute_ (a : Int) (ha : -9223372036854775807 ≤ a) (ha2 : a ≤ 9223372036854775807) : impl_absolute.f a = some (ab a) := by
  unfold impl_absolute.f ab mx
  rw [w64 (n := -a) (by omega) (by omega)]
  by_cases h : a < 0
  · rw [if_pos h, if_pos (by omega)]
  · rw [if_neg h, if_neg (by omega)]

theorem ImplSize_ (a b c : Int) (ha : -11000000000 ≤ a ∧ a ≤ 11000000000) (hb : -11000000000 ≤ b ∧ b ≤ 11000000000) (hc : -11000000000 ≤ c ∧ c ≤ 11000000000) : impl_moment_size.f a b c = some (ab a + ab b + ab c) := by
  have a1 := abs_bounds a _ ha; have a2 := abs_bounds b _ hb; have a3 := abs_bounds c _ hc
  unfold impl_moment_size.f
  rw [absolute_ _ (by omega) (by omega), absolute_ _ (by omega) (by omega), absolute_ _ (by omega) (by omega)]; simp only [Option.bind_some]
  rw [w64 (n := ab a + ab b) (by omega) (by omega), w64 (by omega) (by omega)]
section
variable (a b c : Int) (ha : -10000000000 ≤ a ∧ a ≤ 10000000000) (hb : -10000000000 ≤ b ∧ b ≤ 10000000000) (hc : -10000000000 ≤ c ∧ c ≤ 10000000000) (l : List IP) (hl : l.length ≤ 10) (ho : l.all okSpot = true)
include ha hb hc hl in
theorem implCounter_1 (i : Int) (i0 : 0 ≤ i) (i1 : i < l.length) (r : Int × Int × Int) : ∀ (d : Nat) (g : Int) (s : Int × Int × Int), 1001 - g = d → 1 ≤ g → Ev (fun k => impl_CounterLoad.l0 k (rowC a b c (rd_T62 l i) i d g s).1 (rowC a b c (rd_T62 l i) i d g s).2.1 (rowC a b c (rd_T62 l i) i d g s).2.2 l (l.length : Int) (i + 1) a b c) r → Ev (fun k => impl_CounterLoad.l1 k s.1 s.2.1 s.2.2 i g l (l.length : Int) i a b c (wx (rd_T62 l i).f0 (rd_T62 l i).f1) (wy (rd_T62 l i).f0 (rd_T62 l i).f1) (sn (rd_T62 l i).f0)) r := by
  have w1 := wx_bounds (rd_T62 l i).f0 (rd_T62 l i).f1; have w2 := wy_bounds (rd_T62 l i).f0 (rd_T62 l i).f1; have w3 := sn_bounds (rd_T62 l i).f0
  intro d
  induction d with
  | zero =>
    intro g s hd hg hr
    refine Ev.step (fun k => ?_) hr
    simp only [impl_CounterLoad.l1]
    rw [if_neg (by omega), w64 (n := i + 1) (by omega) (by omega)]; rfl
  | succ d ih =>
    intro g s hd hg hr
    have b1 := g_bounds g _ hg (by omega) w1.1 w1.2; have b2 := g_bounds g _ hg (by omega) w2.1 w2.2; have b3 := g_bounds g _ hg (by omega) w3.1 w3.2
    refine Ev.step (fun k => ?_) (ih (g + 1) (stepC a b c (rd_T62 l i) i g s) (by omega) (by omega) hr)
    simp only [impl_CounterLoad.l1]
    rw [if_pos (by omega), w64 (n := g * wx _ _) (by omega) (by omega), w64 (n := g * wy _ _) (by omega) (by omega), w64 (n := g * sn _) (by omega) (by omega), w64 (n := a + _) (by omega) (by omega), w64 (n := b + _) (by omega) (by omega), w64 (n := c + _) (by omega) (by omega), ImplSize_ _ _ _ (by omega) (by omega) (by omega)]; simp only [Option.bind_some]
    rw [w64 (n := g + 1) (by omega) (by omega)]
    unfold stepC rest
    by_cases c1 : s.2.2 < 0
    · rw [if_pos c1, if_pos c1]
    · rw [if_neg c1, if_neg c1]
      by_cases c2 : ab (a + g * wx (rd_T62 l i).f0 (rd_T62 l i).f1) + ab (b + g * wy (rd_T62 l i).f0 (rd_T62 l i).f1) + ab (c + g * sn (rd_T62 l i).f0) < s.2.2
      · rw [if_pos c2, if_pos c2]
      · rw [if_neg c2, if_neg c2]
include ha hb hc hl ho in
theorem implCounter_0 (N : Nat) (hN : N = 1000) : ∀ (d : Nat) (i : Int) (s : Int × Int × Int), (l.length : Int) - i = d → 0 ≤ i → Ev (fun k => impl_CounterLoad.l0 k s.1 s.2.1 s.2.2 l (l.length : Int) i a b c) ((allC N a b c l d i s).1, (allC N a b c l d i s).2.1, 0) := by
  intro d
  induction d with
  | zero =>
    intro i s hd hi
    refine Ev.now (fun k => ?_)
    simp only [impl_CounterLoad.l0]
    rw [if_neg (by omega)]; rfl
  | succ d ih =>
    intro i s hd hi
    rw [allC_succ]
    obtain ⟨p1, p2⟩ := (okSpot_iff _).1 (okAt l ho i hi (by omega))
    obtain ⟨K, hK⟩ := implCounter_1 a b c ha hb hc l hl i hi (by omega) _ N 1 s (by omega) (by omega) (ih (i + 1) _ (by omega) (by omega))
    refine ⟨K + 10, fun k hk => ?_⟩
    obtain ⟨k, rfl⟩ : ∃ m, k = m + 1 := ⟨k - 1, by omega⟩
    simp only [impl_CounterLoad.l0]
    rw [if_pos (by omega), if_pos hi, if_pos (by omega), ImplWith_ k (by omega) 0 0 0 _ _ 1 p1 p2 (by omega) (by omega) (by omega) (by omega)]; simp only [Option.bind_some]
    rw [Int.one_mul, Int.one_mul, Int.one_mul, Int.zero_add, Int.zero_add, Int.zero_add]
    exact hK k (by omega)
end
theorem ImplCounter_ (x : List IL) (l : List IP) : Ev (fun k => impl_CounterLoad.f k x l) (counterR x l) := by
  by_cases h : okLs x = true ∧ l.all okSpot = true
  · obtain ⟨o1, o2⟩ := (okLs_iff x).1 h.1
    obtain ⟨b1, b2, b3⟩ := moms_bounds x h.1
    have hf : ∀ k, impl_CounterLoad.f k x l = impl_CounterLoad.j0 k x l (if (l.length : Int) ≤ 10 then 0 else 2) := by
      intro k
      unfold impl_CounterLoad.f
      rw [show impl_ValidLoads.f x = some (okLs x) from rfl, show impl_areSpots.f l = some (l.all okSpot) from rfl, h.1, h.2]; simp only [Option.bind_some, if_true, impl_check.f, decide_eq_true_eq]
      by_cases c : (l.length : Int) ≤ 10
      · rw [if_pos c, if_pos c]; rfl
      · rw [if_neg c, if_neg c]; rfl
    unfold counterR
    rw [if_pos h]
    by_cases c1 : (l.length : Int) ≤ 10
    · by_cases c2 : (l.length : Int) = 0
      · rw [if_pos c1, if_pos c2]
        refine Ev.eq (h := fun k => impl_CounterLoad.j0 k x l 0) (fun k => by rw [hf, if_pos c1]) (Ev.now (fun k => ?_))
        simp only [impl_CounterLoad.j0]
        rw [if_pos c2]; rfl
      · rw [if_pos c1, if_neg c2]
        refine Ev.eq (h := fun k => impl_CounterLoad.j0 k x l 0) (fun k => by rw [hf, if_pos c1]) (Ev.step (h := fun k => (impl_momentOf.f k x).bind fun t => impl_CounterLoad.l0 k 0 0 (-1) l (l.length : Int) 0 t.1 t.2.1 t.2.2) (fun k => ?_) (Ev.bind (t := (mom gx x, mom gy x, mom gz x)) ⟨100, fun k hk => ImplMom_ x o1 o2 k hk⟩ (implCounter_0 _ _ _ b1 b2 b3 l (by omega) h.2 1000 rfl l.length 0 (0, 0, -1) (by omega) (by omega))))
        simp only [impl_CounterLoad.j0]
        rw [if_neg c2]; rfl
    · rw [if_neg c1]
      refine Ev.eq (h := fun k => impl_CounterLoad.j0 k x l 2) (fun k => by rw [hf, if_neg c1]) (Ev.now (fun k => ?_))
      simp only [impl_CounterLoad.j0]
      rw [if_neg (by omega)]
  · have hf : ∀ k, impl_CounterLoad.f k x l = impl_CounterLoad.j0 k x l 1 := by
      intro k
      unfold impl_CounterLoad.f
      rw [show impl_ValidLoads.f x = some (okLs x) from rfl, show impl_areSpots.f l = some (l.all okSpot) from rfl]; simp only [Option.bind_some, impl_check.f]
      by_cases c : okLs x = true
      · rw [if_pos c, if_neg (fun d => h ⟨c, d⟩)]; rfl
      · rw [if_neg c]; rfl
    unfold counterR
    rw [if_neg h]
    refine Ev.eq (h := fun k => impl_CounterLoad.j0 k x l 1) hf (Ev.now (fun k => ?_))
    simp only [impl_CounterLoad.j0]
    rw [if_neg (by omega)]

def even20 (l : List IL) (b : Int) : Bool × Int := if okLs l = true then (if 0 ≤ b ∧ b ≤ 1000000000 then (decide (ab (mom gx l) ≤ b) && (decide (ab (mom gy l) ≤ b) && decide (ab (mom gz l) ≤ b)), 0) else (false, 2)) else (false, 1)
theorem SpecEven20_ (l : List IL) (hl : l.length ≤ 1048576) (b : Int) (k : Nat) (hk : 1048577 ≤ k) : spec_IsEven.f k l b = some (even20 l b) := by
  unfold spec_IsEven.f even20
  rw [SpecOk20_ l hl k hk]; simp only [Option.bind_some]
  by_cases h : okLs l = true
  · rw [if_pos h, if_pos h, In_]; simp only [Option.bind_some, decide_eq_true_eq]
    by_cases c : 0 ≤ b ∧ b ≤ 1000000000
    · obtain ⟨o1, o2⟩ := (okLs_iff l).1 h
      obtain ⟨b1, b2, b3⟩ := moms_bounds l h
      rw [if_pos c, if_pos c, SpecMom_ l o1 o2 k (by omega)]; simp only [Option.bind_some]
      rw [show rd [mom gx l, mom gy l, mom gz l] 0 = mom gx l from rfl, show rd [mom gx l, mom gy l, mom gz l] 1 = mom gy l from rfl, show rd [mom gx l, mom gy l, mom gz l] 2 = mom gz l from rfl]
      rw [Size_ _ (by omega) (by omega), Size_ _ (by omega) (by omega), Size_ _ (by omega) (by omega)]; simp only [Option.bind_some]
      by_cases c1 : ab (mom gx l) ≤ b <;> by_cases c2 : ab (mom gy l) ≤ b <;> simp [c1, c2]
    · rw [if_neg c, if_neg c]
  · rw [if_neg h, if_neg h]

theorem within_ (a b c : Int) : impl_within.f a b c = some (decide (b ≤ a ∧ a ≤ c)) := by
  unfold impl_within.f
  by_cases h : a ≥ b
  · rw [if_pos h]; simp [show b ≤ a from h]
  · rw [if_neg h]; simp [show ¬ b ≤ a from h]

theorem ab_le (a b : Int) : (ab a ≤ b) ↔ (-b ≤ a ∧ a ≤ b) := by unfold ab; split <;> omega
theorem ImplEven20_ (l : List IL) (b : Int) (k : Nat) (hk : 100 ≤ k) : impl_IsEven.f k l b = some (even20 l b) := by
  unfold impl_IsEven.f even20
  rw [show impl_ValidLoads.f l = some (okLs l) from rfl, within_]; simp only [Option.bind_some, impl_check.f]
  by_cases h : okLs l = true
  · rw [if_pos h, if_pos h]
    simp only [decide_eq_true_eq]
    by_cases c : 0 ≤ b ∧ b ≤ 1000000000
    · obtain ⟨o1, o2⟩ := (okLs_iff l).1 h
      rw [if_pos c, if_pos c]; simp only [Option.bind_some, if_true]
      rw [ImplMom_ l o1 o2 k hk]; simp only [Option.bind_some, impl_allWithin.f]
      rw [w64 (n := -b) (by omega) (by omega)]
      simp only [ab_le, List.all_cons, List.all_nil, Bool.and_true]
    · rw [if_neg c, if_neg c]; simp
  · rw [if_neg h, if_neg h]; simp

theorem f6ints_l (l : List Int) (hl : l.length ≤ 1152921504606846976) : ∀ (d k : Nat) (i : Int), (l.length : Int) - i = d → 0 ≤ i → d < k → laws_f6ints.l0 k l l i = some true := by
  intro d
  induction d with
  | zero =>
    intro k i hd h0 hk
    obtain ⟨k, rfl⟩ : ∃ m, k = m + 1 := ⟨k - 1, by omega⟩
    simp only [laws_f6ints.l0]; rw [if_neg (by omega)]
  | succ d ih =>
    intro k i hd h0 hk
    obtain ⟨k, rfl⟩ : ∃ m, k = m + 1 := ⟨k - 1, by omega⟩
    simp only [laws_f6ints.l0]
    rw [if_pos (by omega), if_pos h0, if_pos (by omega), if_pos trivial, w64 (by omega) (by omega)]
    exact ih k (i + 1) (by omega) (by omega) (by omega)
theorem f6ints_ (l : List Int) (hl : l.length ≤ 1152921504606846976) (k : Nat) (hk : l.length < k) : laws_f6ints.f k l l = some true := by
  unfold laws_f6ints.f
  rw [if_pos rfl]; exact f6ints_l l hl l.length k 0 (by omega) (by omega) hk

theorem f6abs_ (a : Int) (ha : -9223372036854775807 ≤ a) (ha2 : a ≤ 9223372036854775807) : laws_f6abs.f a = some (ab a) := by
  unfold laws_f6abs.f ab
  by_cases h : a < 0
  · rw [if_pos h, if_pos h, w64 (by omega) (by omega)]
  · rw [if_neg h, if_neg h]

theorem rd_mem (l : List Int) (i : Int) (h0 : 0 ≤ i) (h : i < l.length) : rd l i ∈ l := by
  unfold rd
  rw [List.getD_eq_getElem?_getD, List.getElem?_eq_getElem (by omega)]
  exact List.getElem_mem _
theorem u64_range (n : Int) : 0 ≤ IntKind.u64.wrap n ∧ IntKind.u64.wrap n < 18446744073709551616 := by
  have e : IntKind.u64.wrap n = n % 18446744073709551616 := by simp [IntKind.wrap, IntKind.bits, IntKind.signed]
  rw [e]; omega
theorem low_byte (n : Int) : 0 ≤ Go.bits .and .u64 (IntKind.u64.wrap n / 1099511627776) 255 ∧ Go.bits .and .u64 (IntKind.u64.wrap n / 1099511627776) 255 ≤ 255 := by
  have h := u64_range n
  have e : Go.bits .and .u64 (IntKind.u64.wrap n / 1099511627776) 255 = (IntKind.u64.wrap n / 1099511627776) % 256 :=
    Go.bits_mask .u64 64 (by decide) (fun m g0 g1 => by
      have e : IntKind.u64.wrap m = m % 18446744073709551616 := by simp [IntKind.wrap, IntKind.bits, IntKind.signed]
      have : (2 : Int) ^ 64 = 18446744073709551616 := by decide
      rw [e]; omega) 8 (by decide) _ (by omega) (by have : (2 : Int) ^ 64 = 18446744073709551616 := by decide
                                                    omega)
  rw [e]; omega
theorem low_byte_w (n : Int) : 0 ≤ wrap64 (Go.bits .and .u64 (IntKind.u64.wrap n / 1099511627776) 255) ∧ wrap64 (Go.bits .and .u64 (IntKind.u64.wrap n / 1099511627776) 255) ≤ 255 := by
  have h := low_byte n
  rw [w64 (by omega) (by omega)]; exact h
theorem Next_ (l : List Int) (hl : ∀ x ∈ l, 0 ≤ x ∧ x ≤ 255) (a s : Int) (h0 : 0 ≤ a) (h1 : a ≤ 1152921504606846976) : ∃ v s', spec_l00Src_next.f l a s = some (v, a + 1, s') ∧ 0 ≤ v ∧ v ≤ 255 := by
  unfold spec_l00Src_next.f
  have hw : wrap64 (a + 1) = a + 1 := w64 (by omega) (by omega)
  by_cases c : a < (l.length : Int)
  · have hb := hl _ (rd_mem l a h0 c)
    rw [if_pos c, if_pos h0, hw, if_pos (by omega)]
    exact ⟨_, _, rfl, by rw [w64 (by omega) (by omega)]; omega, by rw [w64 (by omega) (by omega)]; omega⟩
  · rw [if_neg c, hw, if_neg (by omega)]
    exact ⟨_, _, rfl, (low_byte_w _).1, (low_byte_w _).2⟩

theorem Pick_ (l : List Int) (hl : ∀ x ∈ l, 0 ≤ x ∧ x ≤ 255) (a s n : Int) (h0 : 0 ≤ a) (h1 : a ≤ 1000000000000) : ∃ v a' s', spec_l00Src_pick.f l a s n = some (v, a', s') ∧ a ≤ a' ∧ a' ≤ a + 2 ∧ 0 ≤ v ∧ v ≤ 65535 ∧ (1 ≤ n → v < n) ∧ (n ≤ 1 → v = 0) := by
  unfold spec_l00Src_pick.f
  by_cases c : n ≤ 1
  · rw [if_pos c]; exact ⟨0, a, s, rfl, by omega, by omega, by omega, by omega, by omega, by omega⟩
  · obtain ⟨v, s', hv, v0, v1⟩ := Next_ l hl a s h0 (by omega)
    rw [if_neg c, hv]; simp only [Option.bind_some]
    by_cases d : n > 200
    · obtain ⟨u, s2, hu, u0, u1⟩ := Next_ l hl (a + 1) s' (by omega) (by omega)
      rw [if_pos d, hu]; simp only [Option.bind_some]
      rw [if_neg (by omega), w64 (n := v * 256) (by omega) (by omega), w64 (n := v * 256 + u) (by omega) (by omega), tmod_eq _ _ (by omega), if_pos (by omega)]
      have g0 := Int.emod_nonneg (v * 256 + u) (b := n) (by omega)
      have g1 := Int.emod_lt_of_pos (v * 256 + u) (b := n) (by omega)
      have g2 := Int.mul_ediv_add_emod (v * 256 + u) n
      have g3 := Int.mul_nonneg (show 0 ≤ n by omega) (Int.ediv_nonneg (show 0 ≤ v * 256 + u by omega) (show 0 ≤ n by omega))
      exact ⟨_, _, _, rfl, by omega, by omega, g0, by omega, fun _ => g1, fun _ => by omega⟩
    · rw [if_neg d, if_neg (by omega), tmod_eq _ _ (by omega), if_pos (by omega)]
      have g0 := Int.emod_nonneg v (b := n) (by omega)
      have g1 := Int.emod_lt_of_pos v (b := n) (by omega)
      exact ⟨_, _, _, rfl, by omega, by omega, g0, by omega, fun _ => g1, fun _ => by omega⟩

theorem One_ (l : List Int) (hl : ∀ x ∈ l, 0 ≤ x ∧ x ≤ 255) (a s n : Int) (h0 : 0 ≤ a) (h1 : a ≤ 1000000000000) : ∃ b a' s', spec_l00Src_one.f l a s n = some (b, a', s') ∧ a ≤ a' ∧ a' ≤ a + 2 := by
  unfold spec_l00Src_one.f
  obtain ⟨v, a', s', h, g1, g2, _⟩ := Pick_ l hl a s n h0 h1
  rw [h]; exact ⟨_, _, _, rfl, g1, g2⟩

theorem Among_ (l : List Int) (hl : ∀ x ∈ l, 0 ≤ x ∧ x ≤ 255) (a s : Int) (xs : List Int) (hx : 0 < xs.length) (h0 : 0 ≤ a) (h1 : a ≤ 1000000000000) : ∃ v a' s', spec_l00Src_among.f l a s xs = some (v, a', s') ∧ a ≤ a' ∧ a' ≤ a + 2 ∧ v ∈ xs := by
  unfold spec_l00Src_among.f
  obtain ⟨v, a', s', h, g1, g2, g3, g4, g5, g6⟩ := Pick_ l hl a s xs.length h0 h1
  have := g5 (by omega)
  rw [h]; simp only [Option.bind_some]
  rw [if_pos g3, if_pos this]
  exact ⟨_, _, _, rfl, g1, g2, rd_mem _ _ g3 this⟩

/-- From some number of rounds on there is an answer, one that is as told. -/
def EvP {α : Type} (g : Nat → Option α) (Q : α → Prop) : Prop := ∃ r, Q r ∧ Ev g r
theorem EvP.step {α : Type} {g h : Nat → Option α} {Q : α → Prop} (e : ∀ k, g (k + 1) = h k) (hr : EvP h Q) : EvP g Q := by
  obtain ⟨r, hq, hr⟩ := hr
  exact ⟨r, hq, Ev.step e hr⟩
theorem EvP.eq {α : Type} {g h : Nat → Option α} {Q : α → Prop} (e : ∀ k, g k = h k) (hr : EvP h Q) : EvP g Q := by
  obtain ⟨r, hq, hr⟩ := hr
  exact ⟨r, hq, Ev.eq e hr⟩
theorem EvP.bind {α β : Type} {c : Nat → Option α} {f : Nat → α → Option β} {P : α → Prop} {Q : β → Prop} (hc : EvP c P) (hf : ∀ t, P t → EvP (fun k => f k t) Q) : EvP (fun k => (c k).bind (f k)) Q := by
  obtain ⟨t, hp, hc⟩ := hc
  obtain ⟨r, hq, hr⟩ := hf t hp
  exact ⟨r, hq, Ev.bind hc hr⟩

theorem EvP.some {α : Type} {Q : α → Prop} {r : α} (h : Q r) : EvP (fun _ => some r) Q := ⟨r, h, 0, fun _ _ => rfl⟩
theorem Spot_j0 (l : List Int) (hl : ∀ x ∈ l, 0 ≤ x ∧ x ≤ 255) (x y a s : Int) (h0 : 0 ≤ a) (h1 : a ≤ 100000000000) : EvP (fun k => spec_l02Draw.j0 k x y l a s) (fun r => a ≤ r.2.2.1 ∧ r.2.2.1 ≤ a + 4) := by
  obtain ⟨v, a1, s1, hv, g1, g2, _⟩ := Pick_ l hl a s 12 h0 (by omega)
  obtain ⟨u, a2, s2, hu, q1, q2, _⟩ := Among_ l hl a1 s1 [-324000, 0, 324000] (by simp) (by omega) (by omega)
  obtain ⟨u', a3, s3, hu', q3, q4, _⟩ := Among_ l hl a1 s1 [-648000, -324000, 0, 324000, 647999] (by simp) (by omega) (by omega)
  by_cases c : v = 0
  · refine ⟨(u, y, a2, s2), ⟨by show a ≤ a2; omega, by show a2 ≤ a + 4; omega⟩, Ev.now fun k => ?_⟩
    simp only [spec_l02Draw.j0]; rw [hv]; simp only [Option.bind_some]; rw [if_pos c, hu]; rfl
  by_cases c1 : v = 1
  · refine ⟨(x, u', a3, s3), ⟨by show a ≤ a3; omega, by show a3 ≤ a + 4; omega⟩, Ev.now fun k => ?_⟩
    simp only [spec_l02Draw.j0]; rw [hv]; simp only [Option.bind_some]; rw [if_neg c, if_pos c1, hu']; rfl
  · refine ⟨(x, y, a1, s1), ⟨by show a ≤ a1; omega, by show a1 ≤ a + 4; omega⟩, Ev.now fun k => ?_⟩
    simp only [spec_l02Draw.j0]; rw [hv]; simp only [Option.bind_some]; rw [if_neg c, if_neg c1]
theorem DrawSpot_ (l : List Int) (hl : ∀ x ∈ l, 0 ≤ x ∧ x ≤ 255) (a s : Int) (h0 : 0 ≤ a) (h1 : a ≤ 10000000000) : EvP (fun k => spec_l02Draw.f k l a s) (fun r => a ≤ r.2.2.1 ∧ r.2.2.1 ≤ a + 20) := by
  obtain ⟨v1, a1, s1, e1, g1, g2, _⟩ := Pick_ l hl a s 181 h0 (by omega)
  obtain ⟨v2, a2, s2, e2, g3, g4, _⟩ := Pick_ l hl a1 s1 180 (by omega) (by omega)
  obtain ⟨b, a3, s3, e3, g5, g6⟩ := One_ l hl a2 s2 3 (by omega) (by omega)
  obtain ⟨v4, a4, s4, e4, g7, g8, _⟩ := Pick_ l hl a3 s3 120 (by omega) (by omega)
  obtain ⟨v5, a5, s5, e5, g9, g10, _⟩ := Pick_ l hl a4 s4 200 (by omega) (by omega)
  cases b with
  | true =>
    obtain ⟨r, ⟨r1, r2⟩, r3⟩ := Spot_j0 l hl (wrap64 ((wrap64 (1800 * (wrap64 (v1 - 90)))) + (wrap64 (v4 - 60)))) (wrap64 ((wrap64 (3600 * (wrap64 (v2 - 90)))) + (wrap64 (60 * v5)))) a5 s5 (by omega) (by omega)
    refine ⟨r, ⟨by omega, by omega⟩, Ev.eq (fun k => ?_) r3⟩
    unfold spec_l02Draw.f
    rw [e1]; simp only [Option.bind_some]; rw [e2]; simp only [Option.bind_some]; rw [e3]; simp only [Option.bind_some, if_true]; rw [e4]; simp only [Option.bind_some]; rw [e5]; rfl
  | false =>
    obtain ⟨r, ⟨r1, r2⟩, r3⟩ := Spot_j0 l hl (wrap64 (1800 * (wrap64 (v1 - 90)))) (wrap64 (3600 * (wrap64 (v2 - 90)))) a3 s3 (by omega) (by omega)
    refine ⟨r, ⟨by omega, by omega⟩, Ev.eq (fun k => ?_) r3⟩
    unfold spec_l02Draw.f
    rw [e1]; simp only [Option.bind_some]; rw [e2]; simp only [Option.bind_some]; rw [e3]; rfl
theorem DrawBent_ (l : List Int) (hl : ∀ x ∈ l, 0 ≤ x ∧ x ≤ 255) (a s : Int) (h0 : 0 ≤ a) (h1 : a ≤ 10000000000) : EvP (fun k => spec_l02Bent.f k l a s) (fun r => a ≤ r.2.2.1 ∧ r.2.2.1 ≤ a + 30) := by
  unfold spec_l02Bent.f
  refine EvP.bind (DrawSpot_ l hl a s h0 h1) (fun t ht => ?_)
  obtain ⟨t1, t2⟩ := ht
  obtain ⟨v, a1, s1, hv, g1, g2, _⟩ := Pick_ l hl t.2.2.1 t.2.2.2 16 (by omega) (by omega)
  obtain ⟨u, a2, s2, hu, q1, q2, _⟩ := Among_ l hl a1 s1 [-324001, -324000, 324000, 324001, -9223372036854775808] (by simp) (by omega) (by omega)
  obtain ⟨u', a3, s3, hu', q3, q4, _⟩ := Among_ l hl a1 s1 [-648001, -648000, 647999, 648000] (by simp) (by omega) (by omega)
  rw [hv]; simp only [Option.bind_some]
  by_cases c : v = 0
  · rw [if_pos c, hu]; exact EvP.some ⟨by show a ≤ a2; omega, by show a2 ≤ a + 30; omega⟩
  by_cases c1 : v = 1
  · rw [if_neg c, if_pos c1, hu']; exact EvP.some ⟨by show a ≤ a3; omega, by show a3 ≤ a + 30; omega⟩
  · rw [if_neg c, if_neg c1]; exact EvP.some ⟨by show a ≤ a1; omega, by show a1 ≤ a + 30; omega⟩
theorem Loads_l (l : List Int) (hl : ∀ x ∈ l, 0 ≤ x ∧ x ≤ 255) (n : Int) (hn : n ≤ 11) : ∀ (d : Nat) (R : List IL) (i a s : Int), i = d → (R.length : Int) + i = n → 0 ≤ a → a + 100 * d ≤ 1000000000 → EvP (fun k => spec_l20Draw.l0 k R n i l a s) (fun r => r.1.length ≤ 11 ∧ a ≤ r.2.1 ∧ r.2.1 ≤ a + 100 * d + 100) := by
  intro d
  induction d with
  | zero =>
    intro R i a s hd hR h0 h1
    by_cases c : n > 0
    · obtain ⟨v, a1, s1, hv, g1, g2, _⟩ := Pick_ l hl a s 20 (by omega) (by omega)
      obtain ⟨u, a2, s2, hu, q1, q2, _⟩ := Among_ l hl a1 s1 [-1, 0, 1, 1000, 1001, -9223372036854775808] (by simp) (by omega) (by omega)
      by_cases c0 : v = 0
      · refine ⟨((R.set (0 : Int).toNat (⟨u, (⟨(rd_T64 R 0).f1.f0, (rd_T64 R 0).f1.f1⟩ : IP)⟩ : IL)), a2, s2), ⟨by show (R.set _ _).length ≤ 11; rw [List.length_set]; omega, by show a ≤ a2; omega, by show a2 ≤ _; omega⟩, Ev.now fun k => ?_⟩
        simp only [spec_l20Draw.l0]
        rw [if_neg (by omega), if_pos c, hv]; simp only [Option.bind_some]; rw [if_pos c0, hu]; simp only [Option.bind_some]; rw [if_pos (by omega)]
      by_cases c1 : v = 1
      · obtain ⟨t, ⟨t1, t2⟩, t3⟩ := DrawBent_ l hl a1 s1 (by omega) (by omega)
        refine ⟨((R.set (0 : Int).toNat (⟨(rd_T64 R 0).f0, (⟨t.1, t.2.1⟩ : IP)⟩ : IL)), t.2.2.1, t.2.2.2), ⟨by show (R.set _ _).length ≤ 11; rw [List.length_set]; omega, by show a ≤ t.2.2.1; omega, by show t.2.2.1 ≤ _; omega⟩, ?_⟩
        obtain ⟨K, hK⟩ := t3
        refine ⟨K + 1, fun k hk => ?_⟩
        obtain ⟨k, rfl⟩ : ∃ m, k = m + 1 := ⟨k - 1, by omega⟩
        have hK := hK k (by omega)
        simp only at hK
        simp only [spec_l20Draw.l0]
        rw [if_neg (by omega), if_pos c, hv]; simp only [Option.bind_some]; rw [if_neg c0, if_pos c1, hK]; simp only [Option.bind_some]; rw [if_pos (by omega)]
      · refine ⟨(R, a1, s1), ⟨by show R.length ≤ 11; omega, by show a ≤ a1; omega, by show a1 ≤ _; omega⟩, Ev.now fun k => ?_⟩
        simp only [spec_l20Draw.l0]
        rw [if_neg (by omega), if_pos c, hv]; simp only [Option.bind_some]; rw [if_neg c0, if_neg c1]
    · refine ⟨(R, a, s), ⟨by show R.length ≤ 11; omega, by show a ≤ a; omega, by show a ≤ _; omega⟩, Ev.now fun k => ?_⟩
      simp only [spec_l20Draw.l0]
      rw [if_neg (by omega), if_neg c]
  | succ d ih =>
    intro R i a s hd hR h0 h1
    obtain ⟨v, a1, s1, hv, g1, g2, _⟩ := Pick_ l hl a s 60 (by omega) (by omega)
    obtain ⟨t, ⟨t1, t2⟩, t3⟩ := DrawSpot_ l hl a1 s1 (by omega) (by omega)
    obtain ⟨r, ⟨r1, r2, r3⟩, r4⟩ := ih (R ++ [(⟨wrap64 (1 + v), (⟨t.1, t.2.1⟩ : IP)⟩ : IL)]) (i - 1) t.2.2.1 t.2.2.2 (by omega) (by rw [List.length_append, List.length_singleton]; omega) (by omega) (by omega)
    refine ⟨r, ⟨r1, by omega, by omega⟩, ?_⟩
    obtain ⟨K, hK⟩ := t3
    obtain ⟨L, hL⟩ := r4
    refine ⟨K + L + 1, fun k hk => ?_⟩
    obtain ⟨k, rfl⟩ : ∃ m, k = m + 1 := ⟨k - 1, by omega⟩
    have hK := hK k (by omega)
    have hL := hL k (by omega)
    simp only at hK hL
    simp only [spec_l20Draw.l0]
    rw [if_pos (by omega), hv]; simp only [Option.bind_some]; rw [hK]; simp only [Option.bind_some]; rw [if_pos (by omega), w64 (n := i - 1) (by omega) (by omega)]; exact hL
theorem Draw20_ (l : List Int) (hl : ∀ x ∈ l, 0 ≤ x ∧ x ≤ 255) (a s : Int) (h0 : 0 ≤ a) (h1 : a ≤ 10000000) : EvP (fun k => spec_l20Draw.f k l a s) (fun r => r.1.length ≤ 11 ∧ a ≤ r.2.1 ∧ r.2.1 ≤ a + 2000) := by
  obtain ⟨v1, a1, s1, e1, g1, g2, u1, _, u2, _⟩ := Pick_ l hl a s 6 h0 (by omega)
  obtain ⟨b, a2, s2, e2, g3, g4⟩ := One_ l hl a1 s1 20 (by omega) (by omega)
  obtain ⟨v3, a3, s3, e3, g5, g6, u3, _, u4, _⟩ := Pick_ l hl a2 s2 2 (by omega) (by omega)
  have u2 := u2 (by omega); have u4 := u4 (by omega)
  cases b with
  | true =>
    obtain ⟨r, ⟨r1, r2, r3⟩, r4⟩ := Loads_l l hl (10 + v3) (by omega) (10 + v3).toNat [] (10 + v3) a3 s3 (by omega) (by simp) (by omega) (by omega)
    refine ⟨r, ⟨r1, by omega, by omega⟩, Ev.eq (h := fun k => spec_l20Draw.j0 k [] (10 + v3) l a3 s3) (fun k => ?_) (Ev.step (fun k => ?_) r4)⟩
    · unfold spec_l20Draw.f
      simp only [Option.bind_some]
      rw [e1]; simp only [Option.bind_some]; rw [e2]; simp only [Option.bind_some, if_true]; rw [e3]; simp only [Option.bind_some]; rw [w64 (n := 10 + v3) (by omega) (by omega)]
    · simp only [spec_l20Draw.j0]
  | false =>
    obtain ⟨r, ⟨r1, r2, r3⟩, r4⟩ := Loads_l l hl v1 (by omega) v1.toNat [] v1 a2 s2 (by omega) (by simp) (by omega) (by omega)
    refine ⟨r, ⟨r1, by omega, by omega⟩, Ev.eq (h := fun k => spec_l20Draw.j0 k [] v1 l a2 s2) (fun k => ?_) (Ev.step (fun k => ?_) r4)⟩
    · unfold spec_l20Draw.f
      simp only [Option.bind_some]
      rw [e1]; simp only [Option.bind_some]; rw [e2]; rfl
    · simp only [spec_l20Draw.j0]
theorem Places_l (l : List Int) (hl : ∀ x ∈ l, 0 ≤ x ∧ x ≤ 255) (X : List IL) (hX : X.length ≤ 11) (n : Int) (hn : n ≤ 11) : ∀ (d : Nat) (R : List IP) (i a s : Int), i = d → (R.length : Int) + i = n → 0 ≤ a → a + 100 * d ≤ 1000000000 → EvP (fun k => spec_DrawCounterLoad.l0 k X R n i l a s) (fun r => r.1.length ≤ 11 ∧ r.2.length ≤ 11) := by
  intro d
  induction d with
  | zero =>
    intro R i a s hd hR h0 h1
    by_cases c : n > 0
    · obtain ⟨b, a1, s1, hv, g1, g2⟩ := One_ l hl a s 10 (by omega) (by omega)
      cases b with
      | true =>
        obtain ⟨t, ⟨t1, t2⟩, K, hK⟩ := DrawBent_ l hl a1 s1 (by omega) (by omega)
        refine ⟨(X, (R.set (0 : Int).toNat (⟨t.1, t.2.1⟩ : IP))), ⟨hX, by show (R.set _ _).length ≤ 11; rw [List.length_set]; omega⟩, K + 1, fun k hk => ?_⟩
        obtain ⟨k, rfl⟩ : ∃ m, k = m + 1 := ⟨k - 1, by omega⟩
        have hK := hK k (by omega)
        simp only at hK
        simp only [spec_DrawCounterLoad.l0]
        rw [if_neg (by omega), if_pos c, hv]; simp only [Option.bind_some, if_true]; rw [hK]; simp only [Option.bind_some]; rw [if_pos (by omega)]
      | false =>
        refine ⟨(X, R), ⟨hX, by show R.length ≤ 11; omega⟩, Ev.now fun k => ?_⟩
        simp only [spec_DrawCounterLoad.l0]
        rw [if_neg (by omega), if_pos c, hv]; rfl
    · refine ⟨(X, R), ⟨hX, by show R.length ≤ 11; omega⟩, Ev.now fun k => ?_⟩
      simp only [spec_DrawCounterLoad.l0]
      rw [if_neg (by omega), if_neg c]
  | succ d ih =>
    intro R i a s hd hR h0 h1
    obtain ⟨t, ⟨t1, t2⟩, K, hK⟩ := DrawSpot_ l hl a s (by omega) (by omega)
    obtain ⟨r, r1, L, hL⟩ := ih (R ++ [(⟨t.1, t.2.1⟩ : IP)]) (i - 1) t.2.2.1 t.2.2.2 (by omega) (by rw [List.length_append, List.length_singleton]; omega) (by omega) (by omega)
    refine ⟨r, r1, K + L + 1, fun k hk => ?_⟩
    obtain ⟨k, rfl⟩ : ∃ m, k = m + 1 := ⟨k - 1, by omega⟩
    have hK := hK k (by omega)
    have hL := hL k (by omega)
    simp only at hK hL
    simp only [spec_DrawCounterLoad.l0]
    rw [if_pos (by omega), hK]; simp only [Option.bind_some]; rw [if_pos (by omega), w64 (n := i - 1) (by omega) (by omega)]; exact hL
theorem DrawCounter_ (l : List Int) (hl : ∀ x ∈ l, 0 ≤ x ∧ x ≤ 255) : EvP (fun k => spec_DrawCounterLoad.f k l) (fun r => r.1.length ≤ 11 ∧ r.2.length ≤ 11) := by
  unfold spec_DrawCounterLoad.f
  rw [show spec_l00From.f l = some (l, 0, 0) from rfl]; simp only [Option.bind_some]
  refine EvP.bind (Draw20_ l hl 0 0 (by omega) (by omega)) (fun t ht => ?_)
  obtain ⟨t0, t1, t2⟩ := ht
  obtain ⟨v1, a1, s1, e1, g1, g2, u1, _, u2, _⟩ := Pick_ l hl t.2.1 t.2.2 5 (by omega) (by omega)
  obtain ⟨b, a2, s2, e2, g3, g4⟩ := One_ l hl a1 s1 20 (by omega) (by omega)
  obtain ⟨v3, a3, s3, e3, g5, g6, u3, _, u4, _⟩ := Pick_ l hl a2 s2 2 (by omega) (by omega)
  have u2 := u2 (by omega); have u4 := u4 (by omega)
  rw [e1]; simp only [Option.bind_some]; rw [e2]; simp only [Option.bind_some]
  cases b with
  | true =>
    simp only [if_true]; rw [e3]; simp only [Option.bind_some]; rw [w64 (n := 10 + v3) (by omega) (by omega)]
    exact EvP.step (fun k => by simp only [spec_DrawCounterLoad.j0]) (Places_l l hl t.1 t0 (10 + v3) (by omega) (10 + v3).toNat [] (10 + v3) a3 s3 (by omega) (by simp) (by omega) (by omega))
  | false =>
    simp only [Bool.false_eq_true, if_false]
    exact EvP.step (fun k => by simp only [spec_DrawCounterLoad.j0]) (Places_l l hl t.1 t0 v1 (by omega) v1.toNat [] v1 a2 s2 (by omega) (by simp) (by omega) (by omega))
theorem DrawEven_ (l : List Int) (hl : ∀ x ∈ l, 0 ≤ x ∧ x ≤ 255) : EvP (fun k => spec_DrawIsEven.f k l) (fun r => r.1.length ≤ 11) := by
  unfold spec_DrawIsEven.f
  rw [show spec_l00From.f l = some (l, 0, 0) from rfl]; simp only [Option.bind_some]
  refine EvP.bind (Draw20_ l hl 0 0 (by omega) (by omega)) (fun t ht => ?_)
  obtain ⟨t0, t1, t2⟩ := ht
  obtain ⟨b, a1, s1, e1, g1, g2⟩ := One_ l hl t.2.1 t.2.2 8 (by omega) (by omega)
  obtain ⟨u, a2, s2, hu, q1, q2, _⟩ := Among_ l hl a1 s1 [-1, 0, 1000000000, 1000000001] (by simp) (by omega) (by omega)
  obtain ⟨v, a3, s3, hv, _⟩ := Pick_ l hl a1 s1 900 (by omega) (by omega)
  rw [e1]; simp only [Option.bind_some]
  cases b with
  | true => rw [if_pos rfl, hu]; exact EvP.some t0
  | false => rw [if_neg (by simp), hv]; exact EvP.some t0

/-- What was tried: a state of the search is the least of it. -/
def BestC (a b c : Int) (l : List IP) (s : Int × Int × Int) (V : Int → Int → Prop) : Prop := (0 ≤ s.1 ∧ s.1 < l.length ∧ 1 ≤ s.2.1 ∧ s.2.1 ≤ 1000 ∧ s.2.2 = rest a b c (rd_T62 l s.1) s.2.1 ∧ 0 ≤ s.2.2) ∧ ∀ i g, V i g → s.2.2 ≤ rest a b c (rd_T62 l i) g
def GoodC (a b c : Int) (l : List IP) (s : Int × Int × Int) (V : Int → Int → Prop) : Prop := (s.2.2 < 0 ∧ ∀ i g, ¬ V i g) ∨ BestC a b c l s V
theorem ab_nonneg (x : Int) : 0 ≤ ab x := by unfold ab; split <;> omega
theorem rest_nonneg (a b c : Int) (p : IP) (g : Int) : 0 ≤ rest a b c p g := by
  have h1 := ab_nonneg (a + g * wx p.f0 p.f1); have h2 := ab_nonneg (b + g * wy p.f0 p.f1); have h3 := ab_nonneg (c + g * sn p.f0)
  unfold rest; omega
theorem GoodC.less {a b c : Int} {l : List IP} {s : Int × Int × Int} {V W : Int → Int → Prop} (h : GoodC a b c l s V) (hw : ∀ i g, W i g → V i g) : GoodC a b c l s W := by
  rcases h with ⟨h1, h2⟩ | ⟨h1, h2⟩
  · exact .inl ⟨h1, fun i g hh => h2 i g (hw i g hh)⟩
  · exact .inr ⟨h1, fun i g hh => h2 i g (hw i g hh)⟩
theorem GoodC.step {a b c : Int} {l : List IP} {s : Int × Int × Int} {V : Int → Int → Prop} (i g : Int) (i0 : 0 ≤ i) (i1 : i < l.length) (g0 : 1 ≤ g) (g1 : g ≤ 1000) (h : GoodC a b c l s V) : GoodC a b c l (stepC a b c (rd_T62 l i) i g s) (fun j d => V j d ∨ (j = i ∧ d = g)) := by
  have hn := rest_nonneg a b c (rd_T62 l i) g
  unfold stepC
  rcases h with ⟨h1, h2⟩ | ⟨h1, h2⟩
  · rw [if_pos h1]
    refine .inr ⟨⟨i0, i1, g0, g1, rfl, hn⟩, fun j d hh => ?_⟩
    rcases hh with hh | ⟨rfl, rfl⟩
    · exact (h2 j d hh).elim
    · exact Int.le_refl _
  · rw [if_neg (by omega)]
    by_cases c1 : rest a b c (rd_T62 l i) g < s.2.2
    · rw [if_pos c1]
      refine .inr ⟨⟨i0, i1, g0, g1, rfl, hn⟩, fun j d hh => ?_⟩
      rcases hh with hh | ⟨rfl, rfl⟩
      · have := h2 j d hh; show rest a b c _ g ≤ _; omega
      · exact Int.le_refl _
    · rw [if_neg c1]
      refine .inr ⟨h1, fun j d hh => ?_⟩
      rcases hh with hh | ⟨rfl, rfl⟩
      · exact h2 j d hh
      · omega
theorem rowC_good (a b c : Int) (l : List IP) (i : Int) (i0 : 0 ≤ i) (i1 : i < l.length) : ∀ (d : Nat) (g : Int) (s : Int × Int × Int) (V : Int → Int → Prop), g + d ≤ 1001 → 1 ≤ g → GoodC a b c l s V → GoodC a b c l (rowC a b c (rd_T62 l i) i d g s) (fun j e => V j e ∨ (j = i ∧ g ≤ e ∧ e < g + d)) := by
  intro d
  induction d with
  | zero =>
    intro g s V hd hg h
    refine GoodC.less h (fun j e hh => ?_)
    rcases hh with hh | ⟨_, h1, h2⟩
    · exact hh
    · omega
  | succ d ih =>
    intro g s V hd hg h
    refine GoodC.less (ih (g + 1) _ _ (by omega) (by omega) (GoodC.step i g i0 i1 hg (by omega) h)) (fun j e hh => ?_)
    rcases hh with hh | ⟨h0, h1, h2⟩
    · exact .inl (.inl hh)
    · by_cases q : e = g
      · exact .inl (.inr ⟨h0, q⟩)
      · exact .inr ⟨h0, by omega, by omega⟩
theorem allC_good (N : Nat) (hN : N = 1000) (a b c : Int) (l : List IP) : ∀ (d : Nat) (i : Int) (s : Int × Int × Int) (V : Int → Int → Prop), i + d = l.length → 0 ≤ i → GoodC a b c l s V → GoodC a b c l (allC N a b c l d i s) (fun j e => V j e ∨ (i ≤ j ∧ j < l.length ∧ 1 ≤ e ∧ e ≤ 1000)) := by
  intro d
  induction d with
  | zero =>
    intro i s V hd hi h
    refine GoodC.less h (fun j e hh => ?_)
    rcases hh with hh | ⟨_, h1, h2⟩
    · exact hh
    · omega
  | succ d ih =>
    intro i s V hd hi h
    rw [allC_succ]
    refine GoodC.less (ih (i + 1) _ _ (by omega) (by omega) (rowC_good a b c l i hi (by omega) N 1 s V (by omega) (by omega) h)) (fun j e hh => ?_)
    rcases hh with hh | ⟨h0, h1, h2, h3⟩
    · exact .inl (.inl hh)
    · by_cases q : j = i
      · exact .inl (.inr ⟨q, by omega, by omega⟩)
      · exact .inr ⟨by omega, h1, h2, h3⟩
theorem counterR_least (x : List IL) (l : List IP) (h : (counterR x l).2.2 = 0) : okLs x = true ∧ l.all okSpot = true ∧ (0 ≤ (counterR x l).1 ∧ (counterR x l).1 < l.length) ∧ (1 ≤ (counterR x l).2.1 ∧ (counterR x l).2.1 ≤ 1000) ∧ ∀ g, 1 ≤ g → g ≤ 1000 → rest (mom gx x) (mom gy x) (mom gz x) (rd_T62 l (counterR x l).1) (counterR x l).2.1 ≤ rest (mom gx x) (mom gy x) (mom gz x) (rd_T62 l (counterR x l).1) g := by
  unfold counterR at h ⊢
  by_cases c : okLs x = true ∧ l.all okSpot = true
  · rw [if_pos c] at h ⊢
    by_cases c1 : (l.length : Int) ≤ 10
    · rw [if_pos c1] at h ⊢
      by_cases c2 : (l.length : Int) = 0
      · rw [if_pos c2] at h; exact absurd h (by decide)
      · rw [if_neg c2] at h ⊢
        have G := allC_good 1000 rfl (mom gx x) (mom gy x) (mom gz x) l l.length 0 (0, 0, -1) (fun _ _ => False) (by omega) (by omega) (.inl ⟨by show (-1 : Int) < 0; omega, fun _ _ h => h⟩)
        generalize allC 1000 (mom gx x) (mom gy x) (mom gz x) l l.length 0 (0, 0, -1) = s at G
        rcases G with ⟨_, G⟩ | ⟨⟨g1, g2, g3, g4, g5, g6⟩, G⟩
        · exact (G 0 1 (.inr ⟨by omega, by omega, by omega, by omega⟩)).elim
        · refine ⟨c.1, c.2, ⟨g1, g2⟩, ⟨g3, g4⟩, fun g h1 h2 => ?_⟩
          have := G s.1 g (.inr ⟨g1, g2, h1, h2⟩)
          rw [g5] at this; exact this
    · rw [if_neg c1] at h; exact absurd h (by decide)
  · rw [if_neg c] at h; exact absurd h (by decide)

def momR (l : List IL) : List Int × Int := if okLs l = true then ([mom gx l, mom gy l, mom gz l], 0) else ([], 1)
theorem SpecMomR_ (l : List IL) (hl : l.length ≤ 1048576) (k : Nat) (hk : 1048577 ≤ k) : spec_MomentOf.f k l = some (momR l) := by
  unfold spec_MomentOf.f momR
  rw [SpecOk20_ l hl k hk]; simp only [Option.bind_some]
  by_cases h : okLs l = true
  · obtain ⟨o1, o2⟩ := (okLs_iff l).1 h
    rw [if_pos h, if_pos h, SpecMom_ l o1 o2 k (by omega)]; rfl
  · rw [if_neg h, if_neg h]
theorem ImplMomR_ (l : List IL) (k : Nat) (hk : 100 ≤ k) : impl_MomentOf.f k l = some (momR l) := by
  unfold impl_MomentOf.f momR
  rw [show impl_ValidLoads.f l = some (okLs l) from rfl]; simp only [Option.bind_some]
  by_cases h : okLs l = true
  · obtain ⟨o1, o2⟩ := (okLs_iff l).1 h
    rw [if_pos h, if_pos h, ImplMom_ l o1 o2 k hk]; rfl
  · rw [if_neg h, if_neg h]

theorem bytes_of {l : List Int} (h : ∀ x ∈ l, (Lit.int .u8 x).wf = true) : ∀ x ∈ l, 0 ≤ x ∧ x ≤ 255 := by
  intro x hx
  simpa [Lit.wf, IntKind.min, IntKind.max, IntKind.signed, IntKind.bits] using h x hx

theorem bal_l1 (S : List Int) (hS : S.length ≤ 100) (h : ∀ i : Int, 0 ≤ i → i < S.length → rd S 0 ≤ rd S i) : ∀ (d : Nat) (i : Int), (S.length : Int) - i ≤ d → 0 ≤ i → ∀ k, d < k → laws_FnBalanceOf.l1 k S i = some true := by
  intro d
  induction d with
  | zero =>
    intro i hd hi k hk
    obtain ⟨k, rfl⟩ : ∃ m, k = m + 1 := ⟨k - 1, by omega⟩
    simp only [laws_FnBalanceOf.l1]
    rw [if_neg (by omega)]
  | succ d ih =>
    intro i hd hi k hk
    obtain ⟨k, rfl⟩ : ∃ m, k = m + 1 := ⟨k - 1, by omega⟩
    simp only [laws_FnBalanceOf.l1]
    by_cases c : i < (S.length : Int)
    · have := h i hi c
      rw [if_pos c, if_pos hi, if_pos (by omega), if_neg (by omega), w64 (n := i + 1) (by omega) (by omega)]
      exact ih (i + 1) (by omega) (by omega) k (by omega)
    · rw [if_neg c]
theorem mom_app (f : IL → Int) (x : List IL) (y : IL) : mom f (x ++ [y]) = mom f x + f y := by simp [mom, List.sum_append]
/-- One round of the law's tries. -/
theorem bal_round (x : List IL) (p : List IP) (best : Int) (hx : okLs x = true) (hlen : x.length < 10) (hp : p.all okSpot = true) (b0 : 0 ≤ best) (b1 : best < p.length) (g : Int) (g0 : 1 ≤ g) (g1 : g ≤ 1000) (w i : Int) (hw : w + i = g) (hw0 : 0 ≤ w) (hw1 : w ≤ 1000) (S : List Int) (hS : S.length ≤ 100) (k : Nat) (hk : 1000 ≤ k) (i0 : -1 ≤ i) (i1 : i ≤ 1) :
    laws_FnBalanceOf.l0 (k + 3) x p best w S i = if i = 0 then laws_FnBalanceOf.l0 k x p best w ([rest (mom gx x) (mom gy x) (mom gz x) (rd_T62 p best) g] ++ S) (i + 1) else laws_FnBalanceOf.l0 k x p best w (S ++ [rest (mom gx x) (mom gy x) (mom gz x) (rd_T62 p best) g]) (i + 1) := by
  obtain ⟨o1, o2⟩ := (okLs_iff x).1 hx
  have hs := okAt p hp best b0 b1
  have hs2 := (okSpot_iff _).1 hs
  obtain ⟨Y, hY⟩ : ∃ Y : IL, Y = ⟨g, ⟨(rd_T62 p best).f0, (rd_T62 p best).f1⟩⟩ := ⟨_, rfl⟩
  have hm : okLs (x ++ [Y]) = true := by
    refine (okLs_iff _).2 ⟨by rw [List.length_append, List.length_singleton]; omega, ?_⟩
    rw [List.all_append, o2]
    have : okLoad Y = true := (okLoad_iff Y).2 (by rw [hY]; exact ⟨⟨g0, g1⟩, hs2.1, hs2.2⟩)
    simp [this]
  have hb := moms_bounds (x ++ [Y]) hm
  have e1 : mom gx (x ++ [Y]) = mom gx x + g * wx (rd_T62 p best).f0 (rd_T62 p best).f1 := by rw [mom_app, hY]; rfl
  have e2 : mom gy (x ++ [Y]) = mom gy x + g * wy (rd_T62 p best).f0 (rd_T62 p best).f1 := by rw [mom_app, hY]; rfl
  have e3 : mom gz (x ++ [Y]) = mom gz x + g * sn (rd_T62 p best).f0 := by rw [mom_app, hY]; rfl
  have hr : rest (mom gx x) (mom gy x) (mom gz x) (rd_T62 p best) g = ab (mom gx (x ++ [Y])) + ab (mom gy (x ++ [Y])) + ab (mom gz (x ++ [Y])) := by rw [e1, e2, e3]; rfl
  have a1 := abs_bounds (mom gx (x ++ [Y])) 10000000000 hb.1
  have a2 := abs_bounds (mom gy (x ++ [Y])) 10000000000 hb.2.1
  have a3 := abs_bounds (mom gz (x ++ [Y])) 10000000000 hb.2.2
  simp only [laws_FnBalanceOf.l0]
  rw [if_pos (by omega), w64 (n := w + i) (by omega) (by omega), hw, if_neg (by omega), show decide (g > 1000) = false from decide_eq_false (by omega)]
  simp only [laws_FnBalanceOf.j5, Bool.false_eq_true, if_false, Option.bind_some, List.nil_append, List.length_nil]
  rw [if_pos (by omega), if_pos b0, if_pos b1, if_pos (by simp only [List.length_singleton]; omega), ← hY, ImplMomR_ (x ++ [Y]) (k + 1) (by omega)]
  unfold momR
  rw [if_pos hm]; simp only [Option.bind_some, if_true, List.length_cons, List.length_nil]
  rw [show (((0 + 1 + 1 + 1 : Nat) : Int) != 3) = false from rfl]
  simp only [laws_FnBalanceOf.j6, Bool.false_eq_true, if_false, List.length_cons, List.length_nil]
  rw [if_pos (by omega), show rd [mom gx (x ++ [Y]), mom gy (x ++ [Y]), mom gz (x ++ [Y])] 0 = mom gx (x ++ [Y]) from rfl, f6abs_ _ (by omega) (by omega)]; simp only [Option.bind_some]
  rw [if_pos (by omega), show rd [mom gx (x ++ [Y]), mom gy (x ++ [Y]), mom gz (x ++ [Y])] 1 = mom gy (x ++ [Y]) from rfl, f6abs_ _ (by omega) (by omega)]; simp only [Option.bind_some]
  rw [if_pos (by omega), show rd [mom gx (x ++ [Y]), mom gy (x ++ [Y]), mom gz (x ++ [Y])] 2 = mom gz (x ++ [Y]) from rfl, f6abs_ _ (by omega) (by omega)]; simp only [Option.bind_some]
  rw [w64 (n := ab (mom gx (x ++ [Y])) + ab (mom gy (x ++ [Y]))) (by omega) (by omega), w64 (n := ab (mom gx (x ++ [Y])) + ab (mom gy (x ++ [Y])) + ab (mom gz (x ++ [Y]))) (by omega) (by omega), ← hr, w64 (n := i + 1) (by omega) (by omega)]
  by_cases c : i = 0
  · rw [if_pos c, if_pos c, if_pos (by simp only [List.length_singleton]; omega)]
  · rw [if_neg c, if_neg c, if_pos (by simp only [List.length_singleton]; omega)]
theorem bal_skip (x : List IL) (p : List IP) (best w i : Int) (S : List Int) (k : Nat) (i0 : -1 ≤ i) (i1 : i ≤ 1) (hw0 : 0 ≤ w) (hw1 : w ≤ 1000) (h : w + i < 1 ∨ w + i > 1000) : laws_FnBalanceOf.l0 (k + 2) x p best w S i = laws_FnBalanceOf.l0 k x p best w S (i + 1) := by
  simp only [laws_FnBalanceOf.l0]
  rw [if_pos (by omega), w64 (n := w + i) (by omega) (by omega)]
  by_cases c : w + i < 1
  · rw [if_pos c]; simp only [laws_FnBalanceOf.j5, if_true]; rw [w64 (n := i + 1) (by omega) (by omega)]
  · rw [if_neg c, show decide (w + i > 1000) = true from decide_eq_true (by omega)]; simp only [laws_FnBalanceOf.j5, if_true]; rw [w64 (n := i + 1) (by omega) (by omega)]
theorem bal_l0 (x : List IL) (p : List IP) (best w : Int) (hx : okLs x = true) (hlen : x.length < 10) (hp : p.all okSpot = true) (b0 : 0 ≤ best) (b1 : best < p.length) (g0 : 1 ≤ w) (g1 : w ≤ 1000) (hl : ∀ g, 1 ≤ g → g ≤ 1000 → rest (mom gx x) (mom gy x) (mom gz x) (rd_T62 p best) w ≤ rest (mom gx x) (mom gy x) (mom gz x) (rd_T62 p best) g) (k : Nat) (hk : 2000 ≤ k) : laws_FnBalanceOf.l0 k x p best w [] (-1) = some true := by
  obtain ⟨R, hR⟩ : ∃ R : Int → Int, R = rest (mom gx x) (mom gy x) (mom gz x) (rd_T62 p best) := ⟨_, rfl⟩
  -- the last steps: whatever stands behind the first
  have fin : ∀ (S : List Int) (m : Nat), 1000 ≤ m → S.length ≤ 90 → (∀ i : Int, 0 ≤ i → i < S.length → rd S 0 ≤ rd S i) → laws_FnBalanceOf.l0 m x p best w S 2 = some true := by
    intro S m hm hS h
    obtain ⟨m, rfl⟩ : ∃ q, m = q + 1 := ⟨m - 1, by omega⟩
    simp only [laws_FnBalanceOf.l0]
    rw [if_neg (by omega)]
    exact bal_l1 S (by omega) h 100 1 (by omega) (by omega) m (by omega)
  have two : ∀ (S : List Int) (m : Nat), 1100 ≤ m → S.length ≤ 80 → 0 < S.length → rd S 0 = R w → (∀ i : Int, 0 ≤ i → i < S.length → R w ≤ rd S i) → laws_FnBalanceOf.l0 m x p best w S 1 = some true := by
    intro S m hm hS h0 he h
    by_cases c : w + 1 > 1000
    · obtain ⟨m, rfl⟩ : ∃ q, m = q + 2 := ⟨m - 2, by omega⟩
      rw [bal_skip x p best w 1 S m (by omega) (by omega) (by omega) g1 (.inr c)]
      exact fin S m (by omega) (by omega) (fun i h1 h2 => by rw [he]; exact h i h1 h2)
    · obtain ⟨m, rfl⟩ : ∃ q, m = q + 3 := ⟨m - 3, by omega⟩
      rw [bal_round x p best hx hlen hp b0 b1 (w + 1) (by omega) (by omega) w 1 rfl (by omega) g1 S (by omega) m (by omega) (by omega) (by omega), if_neg (by omega), ← hR]
      have e0 : rd (S ++ [R (w + 1)]) 0 = R w := by
        rw [← he]; unfold rd
        rw [List.getD_eq_getElem?_getD, List.getD_eq_getElem?_getD, List.getElem?_append_left (by simpa using h0)]
      refine fin _ m (by omega) (by rw [List.length_append, List.length_singleton]; omega) (fun i h1 h2 => ?_)
      rw [e0]
      rw [List.length_append, List.length_singleton] at h2
      by_cases q : i < S.length
      · have := h i h1 q
        unfold rd at this ⊢
        rw [List.getD_eq_getElem?_getD, List.getElem?_append_left (by omega), ← List.getD_eq_getElem?_getD]; exact this
      · have : rd (S ++ [R (w + 1)]) i = R (w + 1) := by
          unfold rd
          rw [List.getD_eq_getElem?_getD, List.getElem?_append_right (by omega), show i.toNat - S.length = 0 by omega]; rfl
        rw [this, hR]; exact hl _ (by omega) (by omega)
  have one : ∀ (S : List Int) (m : Nat), 1200 ≤ m → S.length ≤ 70 → (∀ i : Int, 0 ≤ i → i < S.length → R w ≤ rd S i) → laws_FnBalanceOf.l0 m x p best w S 0 = some true := by
    intro S m hm hS h
    obtain ⟨m, rfl⟩ : ∃ q, m = q + 3 := ⟨m - 3, by omega⟩
    rw [bal_round x p best hx hlen hp b0 b1 w g0 g1 w 0 (by omega) (by omega) g1 S (by omega) m (by omega) (by omega) (by omega), if_pos rfl, ← hR]
    refine two _ m (by omega) (by rw [List.length_append, List.length_singleton]; omega) (by simp) rfl (fun i h1 h2 => ?_)
    rw [List.length_append, List.length_singleton] at h2
    by_cases q : i = 0
    · subst q; exact Int.le_refl _
    · have := h (i - 1) (by omega) (by omega)
      have e : rd ([R w] ++ S) i = rd S (i - 1) := by
        unfold rd
        rw [List.getD_eq_getElem?_getD, List.getD_eq_getElem?_getD, List.getElem?_append_right (by simp; omega), show i.toNat - [R w].length = (i - 1).toNat by first | (simp; done) | (simp; omega)]
      rw [e]; exact this
  by_cases c : w + -1 < 1
  · obtain ⟨k, rfl⟩ : ∃ q, k = q + 2 := ⟨k - 2, by omega⟩
    rw [bal_skip x p best w (-1) [] k (by omega) (by omega) (by omega) g1 (.inl c)]
    exact one [] k (by omega) (by simp) (fun i h1 h2 => absurd h2 (by simp; omega))
  · obtain ⟨k, rfl⟩ : ∃ q, k = q + 3 := ⟨k - 3, by omega⟩
    rw [bal_round x p best hx hlen hp b0 b1 (w + -1) (by omega) (by omega) w (-1) rfl (by omega) g1 [] (by simp) k (by omega) (by omega) (by omega), if_neg (by omega), ← hR]
    refine one _ k (by omega) (by simp) (fun i h1 h2 => ?_)
    have : i = 0 := by simp at h2; omega
    subst this
    show R w ≤ R (w + -1)
    rw [hR]; exact hl _ (by omega) (by omega)
theorem FnBalanceOf : laws_FnBalanceOf.Pure := by
  intro l _ _ hl
  have hl := bytes_of hl
  by_cases hb : (l.length : Int) > 4096
  · exact ⟨0, by
      unfold laws_FnBalanceOf.f
      rw [show laws_f6big.f l = some (decide ((l.length : Int) > 4096)) from rfl, decide_eq_true hb]; rfl⟩
  obtain ⟨⟨x, p⟩, ⟨hx, hp⟩, K1, e1⟩ := DrawCounter_ l hl
  obtain ⟨⟨a, b⟩, ha, K2, e2⟩ := DrawEven_ l hl
  dsimp only at hx hp ha e1 e2
  obtain ⟨K3, e3⟩ := SpecCounter_ x p (by omega) (by omega)
  obtain ⟨K4, e4⟩ := ImplCounter_ x p
  dsimp only at e3 e4
  have hmr : ∀ x : List IL, (momR x).1.length ≤ 3 := by
    intro x; unfold momR; split <;> simp
  have hm3 := hmr x
  obtain ⟨C, hC⟩ : ∃ C, C = counterR x p := ⟨_, rfl⟩
  have hleast := counterR_least x p
  rw [← hC] at e3 e4 hleast
  refine ⟨3000000 + (K1 + K2 + K3 + K4), ?_⟩
  generalize hk : 3000000 + (K1 + K2 + K3 + K4) = k
  have j3 : ∀ m, 2500 ≤ m → C.2.2 = 0 → laws_FnBalanceOf.j3 m x p C.1 C.2.1 (decide ((x.length : Int) ≥ 10)) = some true := by
    intro m hm h
    obtain ⟨m, rfl⟩ : ∃ q, m = q + 1 := ⟨m - 1, by omega⟩
    obtain ⟨q1, q2, q3, q4, q5⟩ := hleast h
    simp only [laws_FnBalanceOf.j3]
    by_cases c : (x.length : Int) ≥ 10
    · rw [decide_eq_true c]; simp
    · rw [decide_eq_false c, if_neg (by simp)]
      exact bal_l0 x p C.1 C.2.1 q1 (by omega) q2 q3.1 q3.2 q4.1 q4.2 q5 m (by omega)
  have j2 : ∀ m, 2600 ≤ m → laws_FnBalanceOf.j2 m x p C.2.2 C.1 C.2.1 = some true := by
    intro m hm
    obtain ⟨m, rfl⟩ : ∃ q, m = q + 1 := ⟨m - 1, by omega⟩
    simp only [laws_FnBalanceOf.j2]
    by_cases c : C.2.2 = 0
    · rw [if_pos c]; exact j3 m (by omega) c
    · rw [if_neg c]
      obtain ⟨m, rfl⟩ : ∃ q, m = q + 1 := ⟨m - 1, by omega⟩
      simp only [laws_FnBalanceOf.j3, if_true]
  have j0 : ∀ m, 3000 ≤ m → laws_FnBalanceOf.j0 m x p C.2.2 C.1 C.2.1 a b (even20 a b).2 (even20 a b).1 false = some true := by
    intro m hm
    obtain ⟨m, rfl⟩ : ∃ q, m = q + 1 := ⟨m - 1, by omega⟩
    simp only [laws_FnBalanceOf.j0, Bool.false_eq_true, if_false]
    by_cases c : (even20 a b).2 = 0
    · rw [if_pos c, ImplMomR_ a m (by omega)]; simp only [Option.bind_some]
      have hev : okLs a = true ∧ (0 ≤ b ∧ b ≤ 1000000000) := by
        unfold even20 at c
        by_cases o : okLs a = true
        · rw [if_pos o] at c
          by_cases o2 : 0 ≤ b ∧ b ≤ 1000000000
          · exact ⟨o, o2⟩
          · rw [if_neg o2] at c; exact absurd c (by decide)
        · rw [if_neg o] at c; exact absurd c (by decide)
      have hb := moms_bounds a hev.1
      unfold momR
      rw [if_pos hev.1]; simp only [if_true, List.length_cons, List.length_nil]
      rw [show (((0 + 1 + 1 + 1 : Nat) : Int) != 3) = false from rfl]
      unfold even20
      rw [if_pos hev.1, if_pos hev.2]
      obtain ⟨m, rfl⟩ : ∃ q, m = q + 1 := ⟨m - 1, by omega⟩
      simp only [laws_FnBalanceOf.j1, Bool.false_eq_true, if_false, List.length_cons, List.length_nil]
      rw [if_pos (by omega), show rd [mom gx a, mom gy a, mom gz a] 0 = mom gx a from rfl, f6abs_ _ (by omega) (by omega)]; simp only [Option.bind_some]
      by_cases c1 : ab (mom gx a) ≤ b
      · rw [if_pos c1, if_pos (by omega), show rd [mom gx a, mom gy a, mom gz a] 1 = mom gy a from rfl, f6abs_ _ (by omega) (by omega)]; simp only [Option.bind_some]
        by_cases c2 : ab (mom gy a) ≤ b
        · rw [if_pos c2, if_pos (by omega), show rd [mom gx a, mom gy a, mom gz a] 2 = mom gz a from rfl, f6abs_ _ (by omega) (by omega)]; simp only [Option.bind_some]
          rw [decide_eq_true c1, decide_eq_true c2]; simp only [Bool.true_and, bne_self_eq_false, Bool.false_eq_true, if_false]
          exact j2 m (by omega)
        · rw [if_neg c2, decide_eq_true c1, decide_eq_false c2]; simp only [Bool.true_and, Bool.false_and, bne_self_eq_false, Bool.false_eq_true, if_false]
          exact j2 m (by omega)
      · rw [if_neg c1, decide_eq_false c1]; simp only [Bool.false_and, bne_self_eq_false, Bool.false_eq_true, if_false]
        exact j2 m (by omega)
    · rw [if_neg c]; exact j2 m (by omega)
  unfold laws_FnBalanceOf.f
  rw [show laws_f6big.f l = some (decide ((l.length : Int) > 4096)) from rfl, decide_eq_false hb]; simp only [Option.bind_some, Bool.false_eq_true, if_false]
  rw [e1 k (by omega)]; simp only [Option.bind_some]
  rw [e4 k (by omega)]; simp only [Option.bind_some]
  rw [e3 k (by omega)]; simp only [Option.bind_some]
  rw [ImplMomR_ x k (by omega)]; simp only [Option.bind_some]
  rw [SpecMomR_ x (by omega) k (by omega)]; simp only [Option.bind_some]
  rw [e2 k (by omega)]; simp only [Option.bind_some]
  rw [ImplEven20_ a b k (by omega)]; simp only [Option.bind_some]
  rw [SpecEven20_ a (by omega) b k (by omega)]; simp only [Option.bind_some, if_true]
  rw [f6ints_ (momR x).1 (by omega) k (by omega)]; simp only [Option.bind_some, if_true, bne_self_eq_false, Bool.false_eq_true, if_false]
  rw [show impl_ValidLoads.f x = some (okLs x) from rfl]; simp only [Option.bind_some]
  rw [show spec_ValidLoads.f k x = some (okLs x) from by unfold spec_ValidLoads.f; rw [SpecOk20_ x (by omega) k (by omega)]; rfl]; simp only [Option.bind_some, bne_self_eq_false]
  exact j0 k (by omega)

end Go.Proofs.Ytncejfhmachapaa.Pure
