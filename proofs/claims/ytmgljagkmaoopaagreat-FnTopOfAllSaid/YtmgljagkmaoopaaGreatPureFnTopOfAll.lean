/- For every chain, bound, lands, borders, latitude, declination and number of divisions: told points stand for the chain and no longer steps have fewer, told colours are right and no fewer are enough, and turning agrees with reckoning within a division. No condition. -/
import Derived.Test.YtmgljagkmaoopaaGreatQFnTopOfAllx20
import Derived.Test.YtmgljagkmaoopaaGreatBase
import Derived.Test.YtmgljagkmaoopaaGreatSky
namespace Go.Proofs.YtmgljagkmaoopaaGreat.Pure
open Go Go.RowKit Go.Proofs.YtmgljagkmaoopaaGreat.QFnTopOfAll Go.Proofs.YtmgljagkmaoopaaGreatW.PrintWords Go.Proofs.YtmgljagkmaoopaaGreatW.PrintLast Go.Proofs.YtmgljagkmaoopaaGreatW.PrintMore Go.Proofs.YtmgljagkmaoopaaGreat.Base
set_option linter.unusedVariables false
set_option linter.unusedSimpArgs false
def Ev {α : Type} (g : Nat → Option α) (r : α) : Prop := ∃ K, ∀ k, K ≤ k → g k = some r
theorem Ev.step {α : Type} {g h : Nat → Option α} {r : α} (e : ∀ k, g (k + 1) = h k) (hr : Ev h r) : Ev g r := by
 obtain ⟨K, hK⟩ := hr; refine ⟨K + 1, fun k hk => ?_⟩; obtain ⟨k, rfl⟩ : ∃ m, k = m + 1 := ⟨k - 1, by omega⟩; rw [e]; exact hK k (by omega)
theorem Ev.now {α : Type} {g : Nat → Option α} {r : α} (e : ∀ k, g (k + 1) = some r) : Ev g r := Ev.step (h := fun _ => some r) e ⟨0, fun _ _ => rfl⟩
theorem Ev.bind {α β : Type} {c : Nat → Option α} {f : Nat → α → Option β} {t : α} {r : β} (hc : Ev c t) (hf : Ev (fun k => f k t) r) : Ev (fun k => (c k).bind (f k)) r := by
 obtain ⟨K, hK⟩ := hc; obtain ⟨L, hL⟩ := hf; exact ⟨K + L, fun k hk => by show (c k).bind (f k) = some r; rw [hK k (by omega)]; exact hL k (by omega)⟩
theorem Ev.eq {α : Type} {g h : Nat → Option α} {r : α} (e : ∀ k, g k = h k) (hr : Ev h r) : Ev g r := by
 obtain ⟨K, hK⟩ := hr; exact ⟨K, fun k hk => by rw [e]; exact hK k hk⟩
abbrev PLc := S71
theorem pl_drop (l : List PLc) (i : Int) (h0 : 0 ≤ i) (h : i < l.length) : l.drop i.toNat = rd_T71 l i :: l.drop (i + 1).toNat := by
 rw [show (i + 1).toNat = i.toNat + 1 by omega, List.drop_eq_getElem_cons (by omega)]; unfold rd_T71; rw [List.getD_eq_getElem?_getD, List.getElem?_eq_getElem (by omega)]; rfl
theorem pl_in (l : List PLc) (i : Int) (h0 : 0 ≤ i) (h : i < l.length) : rd_T71 l i ∈ l := by
 unfold rd_T71; rw [List.getD_eq_getElem?_getD, List.getElem?_eq_getElem (by omega)]; exact List.getElem_mem _
theorem pl_take (l : List PLc) (j i : Int) (h0 : 0 ≤ i) (h1 : i < j) (h : j ≤ l.length) : rd_T71 (l.take j.toNat) i = rd_T71 l i := by
 unfold rd_T71; rw [List.getD_eq_getElem?_getD, List.getD_eq_getElem?_getD, List.getElem?_take_of_lt (by omega)]
theorem okPl_ (l : List PLc) (h : l.all okPlace = true) (i : Int) (h0 : 0 ≤ i) (h1 : i < l.length) : okPlace (rd_T71 l i) = true := List.all_eq_true.1 h _ (pl_in l i h0 h1)
theorem In_ (a b c : Int) : spec_l00In.f a b c = some (decide (b ≤ a ∧ a ≤ c)) := by
 unfold spec_l00In.f; by_cases h : a ≥ b
 ·rw [if_pos h]; simp [show b ≤ a from h]
 ·rw [if_neg h]; simp [show ¬ b ≤ a from h]
theorem within_ (a b c : Int) : impl_within.f a b c = some (decide (b ≤ a ∧ a ≤ c)) := by
 unfold impl_within.f; by_cases h : a ≥ b
 ·rw [if_pos h]; simp [show b ≤ a from h]
 ·rw [if_neg h]; simp [show ¬ b ≤ a from h]
def lw (a b p : PLc) (m : Int) : Bool := (impl_lineWithin.f a.f0 a.f1 b.f0 b.f1 p.f0 p.f1 m).getD false
theorem lw_ (a b p : PLc) (m : Int) : impl_lineWithin.f a.f0 a.f1 b.f0 b.f1 p.f0 p.f1 m = some (lw a b p m) := by
 unfold lw impl_lineWithin.f impl_square.f impl_beside.f; split <;> rfl
theorem Far_ (a b : PLc) (ha : okPlace a = true) (hb : okPlace b = true) : spec_l07Far.f a.f0 a.f1 b.f0 b.f1 = impl_square.f a.f0 a.f1 b.f0 b.f1 := by
 unfold okPlace at ha hb; simp only [Bool.and_eq_true, decide_eq_true_eq] at ha hb; unfold spec_l07Far.f impl_square.f; rw [w64 (n := b.f0 - a.f0) (by omega) (by omega), w64 (n := b.f1 - a.f1) (by omega) (by omega), w64 (n := a.f0 - b.f0) (by omega) (by omega), w64 (n := a.f1 - b.f1) (by omega) (by omega)]; rw [show (b.f0 - a.f0) * (b.f0 - a.f0) = (a.f0 - b.f0) * (a.f0 - b.f0) by grind, show (b.f1 - a.f1) * (b.f1 - a.f1) = (a.f1 - b.f1) * (a.f1 - b.f1) by grind]
theorem Near_ (a b p : PLc) (m : Int) (ha : okPlace a = true) (hb : okPlace b = true) (hp : okPlace p = true) : spec_l07Near.f a.f0 a.f1 b.f0 b.f1 p.f0 p.f1 m = some (lw a b p m) := by
 rw [← lw_]; unfold spec_l07Near.f impl_lineWithin.f; rw [Far_ a p ha hp, Far_ a b ha hb]; rfl
def st (c : List PLc) (m i j : Int) : Bool := ((c.take j.toNat).drop (i + 1).toNat).all fun p => lw (rd_T71 c i) (rd_T71 c j) p m
theorem st_next (c : List PLc) (m i : Int) (h : 0 ≤ i) : st c m i (i + 1) = true := by
 unfold st; rw [List.drop_eq_nil_of_le (by rw [List.length_take]; omega)]; rfl
theorem MayStand_l (c : List PLc) (m i j : Int) (hc : c.length ≤ 24) (i0 : 0 ≤ i) (i1 : i < c.length) (j0 : 0 ≤ j) (j1 : j < c.length) (xs : List PLc) (hx : xs.length ≤ 24) : ∀ (d : Nat) (x : Int), (xs.length : Int) - x = d → 0 ≤ x → Ev (fun k => impl_mayStand.l0 k c i j m xs (xs.length : Int) x) ((xs.drop x.toNat).all fun p => lw (rd_T71 c i) (rd_T71 c j) p m) := by
 intro d
 induction d with
 | zero =>
  intro x hd hx0; rw [List.drop_eq_nil_of_le (by omega)]; refine Ev.now (fun k => ?_); simp only [impl_mayStand.l0]; rw [if_neg (by omega)]; rfl
 | succ d ih =>
  intro x hd hx0; rw [pl_drop xs x hx0 (by omega), List.all_cons]
  have e : ∀ k, impl_mayStand.l0 (k + 1) c i j m xs (xs.length : Int) x = if lw (rd_T71 c i) (rd_T71 c j) (rd_T71 xs x) m = true then impl_mayStand.l0 k c i j m xs (xs.length : Int) (x + 1) else some false := by
   intro k; simp only [impl_mayStand.l0]; rw [if_pos (by omega), if_pos hx0, if_pos (by omega), if_pos i0, if_pos i1, if_pos j0, if_pos j1, lw_]; simp only [Option.bind_some]; rw [w64 (n := x + 1) (by omega) (by omega)]
  cases hl : lw (rd_T71 c i) (rd_T71 c j) (rd_T71 xs x) m with
  | true =>
   rw [Bool.true_and]; exact Ev.step (fun k => by rw [e, if_pos hl]) (ih (x + 1) (by omega) (by omega))
  | false => exact Ev.now (fun k => by rw [e, hl, if_neg (by simp)]; rfl)
theorem MayStand_ (c : List PLc) (m i j : Int) (hc : c.length ≤ 24) (i0 : 0 ≤ i) (ij : i < j) (j1 : j < c.length) : Ev (fun k => impl_mayStand.f k c i j m) (st c m i j) := by
 (have hl : ((c.take j.toNat).drop (i + 1).toNat).length ≤ 24 := by rw [List.length_drop, List.length_take]; omega); refine Ev.eq (h := fun k => impl_mayStand.l0 k c i j m ((c.take j.toNat).drop (i + 1).toNat) (((c.take j.toNat).drop (i + 1).toNat).length : Int) 0) (fun k => ?_) (MayStand_l c m i j hc i0 (by omega) (by omega) j1 _ hl _ 0 rfl (by omega)); unfold impl_mayStand.f; rw [w64 (n := i + 1) (by omega) (by omega), if_pos (by omega), if_pos (by omega), if_pos (by omega)]; rfl
theorem Within_l (c : List PLc) (m i j : Int) (hc : c.length ≤ 24) (hok : c.all okPlace = true) (i0 : 0 ≤ i) (j1 : j < c.length) : ∀ (d : Nat) (x : Int), j - x = d → i < x → Ev (fun k => spec_l07Within.l0 k c i j m x) (((c.take j.toNat).drop x.toNat).all fun p => lw (rd_T71 c i) (rd_T71 c j) p m) := by
 intro d
 induction d with
 | zero =>
  intro x hd hx0; rw [List.drop_eq_nil_of_le (by rw [List.length_take]; omega)]; refine Ev.now (fun k => ?_); simp only [spec_l07Within.l0]; rw [if_neg (by omega)]; rfl
 | succ d ih =>
  intro x hd hx0; rw [pl_drop (c.take j.toNat) x (by omega) (by rw [List.length_take]; omega), List.all_cons, pl_take c j x (by omega) (by omega) (by omega)]
  have e : ∀ k, spec_l07Within.l0 (k + 1) c i j m x = if lw (rd_T71 c i) (rd_T71 c j) (rd_T71 c x) m = true then spec_l07Within.l0 k c i j m (x + 1) else some false := by
   intro k; simp only [spec_l07Within.l0]; rw [if_pos (by omega), if_pos i0, if_pos (by omega), if_pos (by omega), if_pos j1, if_pos (by omega), if_pos (by omega), Near_ _ _ _ _ (okPl_ c hok i i0 (by omega)) (okPl_ c hok j (by omega) j1) (okPl_ c hok x (by omega) (by omega))]; simp only [Option.bind_some]; rw [w64 (n := x + 1) (by omega) (by omega)]
  cases hl : lw (rd_T71 c i) (rd_T71 c j) (rd_T71 c x) m with
  | true =>
   rw [Bool.true_and]; exact Ev.step (fun k => by rw [e, if_pos hl]) (ih (x + 1) (by omega) (by omega))
  | false => exact Ev.now (fun k => by rw [e, hl, if_neg (by simp)]; rfl)
theorem SpecWithin_ (c : List PLc) (m i j : Int) (hc : c.length ≤ 24) (hok : c.all okPlace = true) (i0 : 0 ≤ i) (ij : i < j) (j1 : j < c.length) : Ev (fun k => spec_l07Within.f k c i j m) (st c m i j) := by
 refine Ev.eq (h := fun k => spec_l07Within.l0 k c i j m (i + 1)) (fun k => ?_) (Within_l c m i j hc hok i0 j1 (j - (i + 1)).toNat (i + 1) (by omega) (by omega)); unfold spec_l07Within.f; rw [w64 (n := i + 1) (by omega) (by omega)]
def okCh (c : List PLc) : Bool := decide ((c.length : Int) ≥ 2) && (decide ((c.length : Int) ≤ 24) && c.all okPlace)
theorem okCh_ (c : List PLc) : impl_ValidChain.f c = some (okCh c) := rfl
theorem okCh_iff (c : List PLc) : okCh c = true ↔ (2 ≤ c.length ∧ c.length ≤ 24 ∧ c.all okPlace = true) := by
 unfold okCh; simp only [Bool.and_eq_true, decide_eq_true_eq]; constructor
 ·rintro ⟨h1, h2, h3⟩; exact ⟨by omega, by omega, h3⟩
 ·rintro ⟨h1, h2, h3⟩; exact ⟨by omega, by omega, h3⟩
theorem specOk_l (c : List PLc) (hc : c.length ≤ 1000000) : ∀ (d : Nat) (x : Int), (c.length : Int) - x = d → 0 ≤ x → Ev (fun k => spec_l07Ok.l0 k c x) ((c.drop x.toNat).all okPlace && decide (2 ≤ (c.length : Int) ∧ (c.length : Int) ≤ 24)) := by
 intro d
 induction d with
 | zero =>
  intro x hd hx0; rw [List.drop_eq_nil_of_le (by omega)]; refine Ev.now (fun k => ?_); simp only [spec_l07Ok.l0]; rw [if_neg (by omega), In_]; rfl
 | succ d ih =>
  intro x hd hx0; rw [pl_drop c x hx0 (by omega), List.all_cons]
  have e : ∀ k, spec_l07Ok.l0 (k + 1) c x = if okPlace (rd_T71 c x) = true then spec_l07Ok.l0 k c (x + 1) else some false := by
   intro k; simp only [spec_l07Ok.l0]; rw [if_pos (by omega), if_pos hx0, In_, In_, w64 (n := x + 1) (by omega) (by omega)]; simp only [Option.bind_some]; unfold okPlace; by_cases h1 : 0 ≤ (rd_T71 c x).f0 ∧ (rd_T71 c x).f0 ≤ 2000 <;> by_cases h2 : 0 ≤ (rd_T71 c x).f1 ∧ (rd_T71 c x).f1 ≤ 2000 <;> simp [h1, h2]
  cases hl : okPlace (rd_T71 c x) with
  | true =>
   rw [Bool.true_and]; exact Ev.step (fun k => by rw [e, if_pos hl]) (ih (x + 1) (by omega) (by omega))
  | false => exact Ev.now (fun k => by rw [e, hl, if_neg (by simp)]; rfl)
theorem SpecOkC_ (c : List PLc) (hc : c.length ≤ 1000000) : Ev (fun k => spec_l07Ok.f k c) (okCh c) := by
 have h := specOk_l c hc c.length 0 (by omega) (by omega)
 have e : ((c.drop (0 : Int).toNat).all okPlace && decide (2 ≤ (c.length : Int) ∧ (c.length : Int) ≤ 24)) = okCh c := by
  unfold okCh; rw [show c.drop (0 : Int).toNat = c from rfl]
  cases c.all okPlace <;> simp
 rw [e] at h; exact h
theorem SpecCodeC_ (c : List PLc) (m : Int) (hc : c.length ≤ 1000000) : Ev (fun k => spec_l07Code.f k c m) (if okCh c = true then (if 0 ≤ m ∧ m ≤ 3000 then 0 else 2) else 1) := by
 refine Ev.eq (h := fun k => (spec_l07Ok.f k c).bind fun t => if t = true then (if 0 ≤ m ∧ m ≤ 3000 then some 0 else some 2) else some 1) (fun k => ?_) (Ev.bind (SpecOkC_ c hc) ⟨0, fun k _ => ?_⟩)
 ·unfold spec_l07Code.f; congr 1; funext t; rw [In_]; simp only [Option.bind_some, decide_eq_true_eq]
 ·by_cases h : okCh c = true
  ·by_cases h2 : 0 ≤ m ∧ m ≤ 3000
   ·simp only [h, h2]; rfl
   ·simp only [h, h2]; rfl
  ·simp only [h]; rfl
theorem StaysWithin_ (c : List PLc) (m i j : Int) (h : okCh c = true) (m0 : 0 ≤ m) (m1 : m ≤ 3000) (i0 : 0 ≤ i) (ij : i < j) (j1 : j < c.length) : Ev (fun k => spec_StaysWithin.f k c i j m) (st c m i j, 0) := by
 obtain ⟨h1, h2, h3⟩ := (okCh_iff c).1 h; have hcode := SpecCodeC_ c m (by omega); rw [if_pos h, if_pos ⟨m0, m1⟩] at hcode
 have hj : Ev (fun k => spec_StaysWithin.j0 k c i j m 0 false) (st c m i j, 0) := by
  refine Ev.step (h := fun k => (spec_l07Within.f k c i j m).bind fun t => some (t, 0)) (fun k => ?_) (Ev.bind (SpecWithin_ c m i j h2 h3 i0 ij j1) ⟨0, fun _ _ => rfl⟩); simp only [spec_StaysWithin.j0]; rw [if_neg (by simp), if_pos trivial]
 refine Ev.eq (h := fun k => (spec_l07Code.f k c m).bind fun t => (if t = 0 then spec_StaysWithin.j0 k c i j m t false else spec_StaysWithin.j0 k c i j m t false)) (fun k => ?_) (Ev.bind hcode (Ev.eq (fun k => if_pos rfl) hj)); unfold spec_StaysWithin.f; congr 1; funext t; rw [In_, w64 (n := (c.length : Int) - 1) (by omega) (by omega), decide_eq_true (show 0 ≤ j ∧ j ≤ (c.length : Int) - 1 by omega)]; simp only [Option.bind_some]; rw [if_pos trivial, In_, w64 (n := j - 1) (by omega) (by omega), decide_eq_true (show 0 ≤ i ∧ i ≤ j - 1 by omega)]; rfl
def Path (ok : Int → Int → Bool) (last : Int) : Int → List Int → Prop
 | i, [] => i = last
 | i, x :: r => i < x ∧ x ≤ last ∧ ok i x = true ∧ Path ok last x r
theorem rd_cons (a : Int) (l : List Int) (j : Int) (h : 1 ≤ j) : rd (a :: l) j = rd l (j - 1) := by
 unfold rd; rw [show j.toNat = (j - 1).toNat + 1 by omega]; rfl
theorem rd_head (a : Int) (l : List Int) : rd (a :: l) 0 = a := rfl
theorem path_le {ok : Int → Int → Bool} {last : Int} : ∀ (q : List Int) (i : Int), Path ok last i q → i ≤ last ∧ (q.length : Int) ≤ last - i
 | [], i, h => by simp only [Path] at h; subst h; simp
 | x :: r, i, h => by
  obtain ⟨h1, h2, _, h4⟩ := h; have := path_le r x h4; rw [List.length_cons]; omega
theorem path_at {ok : Int → Int → Bool} {last : Int} : ∀ (q : List Int) (i : Int), Path ok last i q → ∀ j : Int, 1 ≤ j → j < (q.length : Int) + 1 → i ≤ rd (i :: q) (j - 1) ∧ rd (i :: q) (j - 1) < rd (i :: q) j ∧ rd (i :: q) j ≤ last ∧ ok (rd (i :: q) (j - 1)) (rd (i :: q) j) = true
 | [], i, _ => fun j h1 h2 => by simp at h2; omega
 | x :: r, i, h => fun j h1 h2 => by
  obtain ⟨a, b, c, d⟩ := h; rw [List.length_cons] at h2; by_cases e : j = 1
  ·subst e; rw [show (1 : Int) - 1 = 0 from rfl, rd_head, rd_cons _ _ _ (by omega), show (1 : Int) - 1 = 0 from rfl, rd_head]; exact ⟨Int.le_refl _, a, b, c⟩
  ·have := path_at r x d (j - 1) (by omega) (by omega); rw [rd_cons i _ _ (by omega), rd_cons i _ _ (by omega)]; refine ⟨by omega, this.2⟩
theorem path_last {ok : Int → Int → Bool} {last : Int} : ∀ (q : List Int) (i : Int), Path ok last i q → rd (i :: q) (q.length : Int) = last
 | [], i, h => h
 | x :: r, i, h => by
  obtain ⟨a, b, c, d⟩ := h; have := path_last r x d; rw [List.length_cons, rd_cons _ _ _ (by omega), show ((r.length + 1 : Nat) : Int) - 1 = (r.length : Int) by omega]; exact this
def Fol (X : List Int) (last : Int) : Int → List Int → Prop
 | i, [] => i = last
 | i, x :: r => i < last ∧ x = rd X i ∧ Fol X last x r
theorem fol_one {X X' : List Int} {last : Int} (h : ∀ t, 0 ≤ t → t < last → t < rd X t ∧ rd X t = rd X' t) : ∀ (q q' : List Int) (i : Int), 0 ≤ i → Fol X last i q → Fol X' last i q' → q = q'
 | [], [], _, _, _, _ => rfl
 | [], x :: r, i, _, h1, h2 => by simp only [Fol] at h1 h2; omega
 | x :: r, [], i, _, h1, h2 => by simp only [Fol] at h1 h2; omega
 | x :: r, x' :: r', i, h0, h1, h2 => by
  obtain ⟨a, rfl, b⟩ := h1; obtain ⟨_, rfl, b'⟩ := h2; have := h i h0 a; rw [← this.2] at b'; rw [fol_one h r r' _ (by omega) b b', this.2]
def Need (ok : Int → Int → Bool) (last : Int) (M X : List Int) (i : Int) : Prop := ∀ t, i ≤ t → t ≤ last → 0 ≤ rd M t ∧ rd M t ≤ last - t ∧ (t < last → (t < rd X t ∧ rd X t ≤ last ∧ ok t (rd X t) = true ∧ rd M t = rd M (rd X t) + 1) ∧ ∀ u, t < u → u ≤ last → ok t u = true → rd M t ≤ rd M u + 1 ∧ (u < rd X t → rd M t < rd M u + 1))
theorem Need.same {ok : Int → Int → Bool} {last : Int} {M X M' X' : List Int} {i : Int} (h : Need ok last M X i) (hM : ∀ t, i ≤ t → rd M' t = rd M t) (hX : ∀ t, i ≤ t → rd X' t = rd X t) : Need ok last M' X' i := by
 intro t h1 h2; obtain ⟨a, b, c⟩ := h t h1 h2; rw [hM t h1, hX t h1]; refine ⟨a, b, fun h3 => ?_⟩; obtain ⟨⟨d1, d2, d3, d4⟩, e⟩ := c h3; refine ⟨⟨d1, d2, d3, ?_⟩, fun u h4 h5 h6 => ?_⟩
 ·rw [hM _ (by omega)]; exact d4
 ·rw [hM _ (by omega)]; exact e u h4 h5 h6
theorem need_one {ok : Int → Int → Bool} {last : Int} {M X M' X' : List Int} (h : Need ok last M X 0) (h' : Need ok last M' X' 0) : ∀ (d : Nat) (t : Int), last - t = d → 0 ≤ t → rd M t = rd M' t ∧ (t < last → rd X t = rd X' t) := by
 intro d
 induction d using Nat.strongRecOn with
 | ind d ih =>
  intro t hd h0; obtain ⟨a1, a2, a3⟩ := h t h0 (by omega); obtain ⟨b1, b2, b3⟩ := h' t h0 (by omega); by_cases e : t = last
  ·exact ⟨by omega, fun _ => by omega⟩
  ·obtain ⟨⟨c1, c2, c3, c4⟩, c5⟩ := a3 (by omega); obtain ⟨⟨d1, d2, d3, d4⟩, d5⟩ := b3 (by omega); have i1 := (ih (last - rd X t).toNat (by omega) (rd X t) (by omega) (by omega)).1; have i2 := (ih (last - rd X' t).toNat (by omega) (rd X' t) (by omega) (by omega)).1; have e1 := c5 (rd X' t) d1 d2 d3; have e2 := d5 (rd X t) c1 c2 c3; exact ⟨by omega, fun _ => by omega⟩
theorem need_least {ok : Int → Int → Bool} {last : Int} {M X : List Int} (h : Need ok last M X 0) : ∀ (q : List Int) (i : Int), 0 ≤ i → Path ok last i q → rd M i ≤ (q.length : Int)
 | [], i, h0, hp => by
  simp only [Path] at hp; subst hp; have := h i h0 (Int.le_refl _); simp; omega
 | x :: r, i, h0, hp => by
  obtain ⟨a, b, c, d⟩ := hp; have h1 := need_least h r x (by omega) d; have h2 := (((h i h0 (by omega)).2.2 (by omega)).2 x a b c).1; rw [List.length_cons]; omega
def EvP {α : Type} (g : Nat → Option α) (Q : α → Prop) : Prop := ∃ r, Q r ∧ Ev g r
theorem EvP.step {α : Type} {g h : Nat → Option α} {Q : α → Prop} (e : ∀ k, g (k + 1) = h k) (hr : EvP h Q) : EvP g Q := by
 obtain ⟨r, hq, hr⟩ := hr; exact ⟨r, hq, Ev.step e hr⟩
theorem EvP.eq {α : Type} {g h : Nat → Option α} {Q : α → Prop} (e : ∀ k, g k = h k) (hr : EvP h Q) : EvP g Q := by
 obtain ⟨r, hq, hr⟩ := hr; exact ⟨r, hq, Ev.eq e hr⟩
theorem EvP.bind {α β : Type} {c : Nat → Option α} {f : Nat → α → Option β} {P : α → Prop} {Q : β → Prop} (hc : EvP c P) (hf : ∀ t, P t → EvP (fun k => f k t) Q) : EvP (fun k => (c k).bind (f k)) Q := by
 obtain ⟨t, hp, hc⟩ := hc; obtain ⟨r, hq, hr⟩ := hf t hp; exact ⟨r, hq, Ev.bind hc hr⟩
section
variable (c : List PLc) (m : Int) (hc2 : 2 ≤ c.length) (hc : c.length ≤ 24)
include hc2 hc in
theorem few_1 (i : Int) (i0 : 0 ≤ i) (i1 : i < (c.length : Int) - 1) (Q : List Int → Prop) : ∀ (d : Nat) (x : Int) (M X : List Int), (c.length : Int) - x = d → i < x → M.length = c.length → X.length = c.length → Need (st c m) ((c.length : Int) - 1) M X (i + 1) →
  (∀ u, i < u → u < x → st c m i u = true → rd M i ≤ rd M u + 1 ∧ (u < rd X i → rd M i < rd M u + 1)) → (rd M i = (c.length : Int) ∨ (i < rd X i ∧ rd X i < x ∧ st c m i (rd X i) = true ∧ rd M i = rd M (rd X i) + 1)) →
  (∀ M' X' : List Int, M'.length = c.length → X'.length = c.length → Need (st c m) ((c.length : Int) - 1) M' X' i → EvP (fun k => impl_fewestPoints.l0 k c m ((c.length : Int) - 1) M' X' (i - 1)) Q) → EvP (fun k => impl_fewestPoints.l1 k c m ((c.length : Int) - 1) M X i x) Q := by
 intro d
 induction d with
 | zero =>
  intro x M X hd hx hM hX hN h1 h2 hn; have hs := (h1 (i + 1) (by omega) (by omega) (st_next c m i i0)).1; have hb := hN (i + 1) (by omega) (by omega); refine EvP.step (fun k => ?_) (hn M X hM hX ?_)
  ·simp only [impl_fewestPoints.l1]; rw [if_neg (by omega), w64 (n := i - 1) (by omega) (by omega)]
  ·intro t t1 t2; by_cases e : t = i
   ·subst e; rcases h2 with h2 | ⟨a, b, e1, e2⟩
    ·omega
    ·have hb2 := hN (rd X t) (by omega) (by omega); exact ⟨by omega, by omega, fun _ => ⟨⟨a, by omega, e1, e2⟩, fun u u1 u2 u3 => h1 u u1 (by omega) u3⟩⟩
   ·exact hN t (by omega) t2
 | succ d ih =>
  intro x M X hd hx hM hX hN h1 h2 hn; have hb := hN x (by omega) (by omega)
  have hMi : rd M i ≤ 25 := by
   rcases h2 with h2 | ⟨a, b, e1, e2⟩
   ·omega
   ·have := hN (rd X i) (by omega) (by omega); omega
  by_cases c1 : rd M x + 1 < rd M i
  ·refine EvP.step (h := fun k => (impl_mayStand.f k c i x m).bind fun t => if t = true then impl_fewestPoints.l1 k c m ((c.length : Int) - 1) (M.set i.toNat (rd M x + 1)) (X.set i.toNat x) i (x + 1) else impl_fewestPoints.l1 k c m ((c.length : Int) - 1) M X i (x + 1)) (fun k => ?_) (EvP.bind (P := fun t => t = st c m i x) ⟨_, rfl, MayStand_ c m i x hc i0 hx (by omega)⟩ (fun t ht => ?_))
   ·simp only [impl_fewestPoints.l1]; rw [if_pos (by omega), if_pos (by omega), if_pos (by omega), if_pos i0, if_pos (by omega), w64 (n := rd M x + 1) (by omega) (by omega), if_pos c1, w64 (n := x + 1) (by omega) (by omega), if_pos (show i < (X.length : Int) by omega)]
   ·subst ht
    cases hs : st c m i x with
    | true =>
     (have hM1 : ∀ u, i < u → rd (M.set i.toNat (rd M x + 1)) u = rd M u := fun u hu => rd_other M i u _ i0 (by omega) (by omega)); have hMi1 : rd (M.set i.toNat (rd M x + 1)) i = rd M x + 1 := rd_same M i _ i0 (by omega); have hXi1 : rd (X.set i.toNat x) i = x := rd_same X i _ i0 (by omega); refine EvP.eq (fun k => if_pos rfl) (ih (x + 1) _ _ (by omega) (by omega) (by simpa using hM) (by simpa using hX) (hN.same (fun t ht => hM1 t (by omega)) (fun t ht => rd_other X i t _ i0 (by omega) (by omega))) (fun u u1 u2 u3 => ?_) ?_ hn)
     ·rw [hMi1, hM1 u u1, hXi1]; by_cases e : u = x
      ·subst e; omega
      ·have := (h1 u u1 (by omega) u3).1; omega
     ·right; rw [hXi1, hMi1, hM1 x hx]; exact ⟨hx, by omega, hs, rfl⟩
    | false =>
     refine EvP.eq (fun k => if_neg (by simp)) (ih (x + 1) M X (by omega) (by omega) hM hX hN (fun u u1 u2 u3 => ?_) (h2.imp_right (fun h => ⟨h.1, by omega, h.2.2⟩)) hn); by_cases e : u = x
     ·subst e; rw [hs] at u3; cases u3
     ·exact h1 u u1 (by omega) u3
  ·refine EvP.step (h := fun k => impl_fewestPoints.l1 k c m ((c.length : Int) - 1) M X i (x + 1)) (fun k => ?_) (ih (x + 1) M X (by omega) (by omega) hM hX hN (fun u u1 u2 u3 => ?_) (h2.imp_right (fun h => ⟨h.1, by omega, h.2.2⟩)) hn)
   ·simp only [impl_fewestPoints.l1]; rw [if_pos (by omega), if_pos (by omega), if_pos (by omega), if_pos i0, if_pos (by omega), w64 (n := rd M x + 1) (by omega) (by omega), if_neg c1, w64 (n := x + 1) (by omega) (by omega)]
   ·by_cases e : u = x
    ·subst e; rcases h2 with h2 | ⟨a, b, _⟩ <;> omega
    ·exact h1 u u1 (by omega) u3
include hc2 hc in
theorem few_0 (Q : List Int → Prop) (hn : ∀ M X : List Int, M.length = c.length → X.length = c.length → Need (st c m) ((c.length : Int) - 1) M X 0 → EvP (fun k => impl_fewestPoints.l2 k ((c.length : Int) - 1) X [0] 0) Q) : ∀ (d : Nat) (i : Int) (M X : List Int), i + 1 = d → i < (c.length : Int) - 1 → M.length = c.length → X.length = c.length → Need (st c m) ((c.length : Int) - 1) M X (i + 1) → EvP (fun k => impl_fewestPoints.l0 k c m ((c.length : Int) - 1) M X i) Q := by
 intro d
 induction d with
 | zero =>
  intro i M X hd hi hM hX hN; refine EvP.step (fun k => ?_) (hn M X hM hX (by rw [show (0 : Int) = i + 1 by omega]; exact hN)); simp only [impl_fewestPoints.l0]; rw [if_neg (by omega)]
 | succ d ih =>
  intro i M X hd hi hM hX hN; refine EvP.step (h := fun k => impl_fewestPoints.l1 k c m ((c.length : Int) - 1) (M.set i.toNat (c.length : Int)) X i (i + 1)) (fun k => ?_) (few_1 c m hc2 hc i (by omega) hi Q ((c.length : Int) - (i + 1)).toNat (i + 1) _ X (by omega) (by omega) (by simpa using hM) hX (hN.same (fun t ht => rd_other M i t _ (by omega) (by omega) (by omega)) (fun _ _ => rfl)) (fun u u1 u2 _ => by omega) (.inl (rd_same M i _ (by omega) (by omega))) (fun M' X' h1 h2 h3 => ih (i - 1) M' X' (by omega) (by omega) h1 h2 (by rw [show i - 1 + 1 = i by omega]; exact h3))); simp only [impl_fewestPoints.l0]; rw [if_pos (by omega), if_pos (by omega), if_pos (by omega), w64 (n := i + 1) (by omega) (by omega)]
include hc in
theorem few_2 (M X : List Int) (hX : X.length = c.length) (hN : Need (st c m) ((c.length : Int) - 1) M X 0) : ∀ (d : Nat) (i : Int) (p : List Int), (c.length : Int) - 1 - i ≤ d → 0 ≤ i → i ≤ (c.length : Int) - 1 → (p.length : Int) ≤ i + 1 → EvP (fun k => impl_fewestPoints.l2 k ((c.length : Int) - 1) X p i) (fun r => ∃ q, r = p ++ q ∧ Path (st c m) ((c.length : Int) - 1) i q ∧ (q.length : Int) = rd M i ∧ Fol X ((c.length : Int) - 1) i q) := by
 intro d
 induction d with
 | zero =>
  intro i p hd h0 h1 hp; (obtain rfl : i = (c.length : Int) - 1 := by omega); have := hN _ h0 h1; refine ⟨p, ⟨[], by simp, rfl, by simp; omega, rfl⟩, Ev.now (fun k => ?_)⟩; simp only [impl_fewestPoints.l2]; rw [if_neg (by omega)]
 | succ d ih =>
  intro i p hd h0 h1 hp; by_cases e : i = (c.length : Int) - 1
  ·subst e; have := hN _ h0 h1; refine ⟨p, ⟨[], by simp, rfl, by simp; omega, rfl⟩, Ev.now (fun k => ?_)⟩; simp only [impl_fewestPoints.l2]; rw [if_neg (by omega)]
  ·obtain ⟨⟨a1, a2, a3, a4⟩, _⟩ := (hN i h0 h1).2.2 (by omega); obtain ⟨r, ⟨q, rfl, q2, q3, q4⟩, hr⟩ := ih (rd X i) (p ++ [rd X i]) (by omega) (by omega) a2 (by simp; omega); refine ⟨_, ⟨rd X i :: q, by simp, ⟨a1, a2, a3, q2⟩, by rw [List.length_cons]; omega, by omega, rfl, q4⟩, Ev.step (fun k => ?_) hr⟩; simp only [impl_fewestPoints.l2]; rw [if_pos (by omega), if_pos h0, if_pos (by omega), if_pos (by omega)]
end
theorem FewestPts_ (c : List PLc) (m : Int) (h : okCh c = true) : EvP (fun k => impl_fewestPoints.f k c m) (fun r => ∃ q, r = 0 :: q ∧ Path (st c m) ((c.length : Int) - 1) 0 q ∧ (∀ q', Path (st c m) ((c.length : Int) - 1) 0 q' → q.length ≤ q'.length) ∧ ∃ M X, Need (st c m) ((c.length : Int) - 1) M X 0 ∧ Fol X ((c.length : Int) - 1) 0 q) := by
 obtain ⟨h1, h2, h3⟩ := (okCh_iff c).1 h; refine EvP.eq (h := fun k => impl_fewestPoints.l0 k c m ((c.length : Int) - 1) (List.replicate c.length 0) (List.replicate c.length 0) ((c.length : Int) - 2)) (fun k => ?_) ?_
 ·unfold impl_fewestPoints.f; rw [if_pos (by omega), if_pos (by omega), w64 (n := (c.length : Int) - 1) (by omega) (by omega), w64 (n := (c.length : Int) - 1 - 1) (by omega) (by omega), Int.toNat_natCast, show (c.length : Int) - 1 - 1 = (c.length : Int) - 2 by omega]
 ·refine few_0 c m h1 h2 _ (fun M X hM hX hN => ?_) ((c.length : Int) - 1).toNat _ _ _ (by omega) (by omega) (by simp) (by simp) ?_
  ·obtain ⟨r, ⟨q, q1, q2, q3, q4⟩, hr⟩ := few_2 c m h2 M X hX hN c.length 0 [0] (by omega) (by omega) (by omega) (by simp); refine ⟨r, ⟨q, by simpa using q1, q2, fun q' hq' => ?_, M, X, hN, q4⟩, hr⟩; have := need_least hN q' 0 (by omega) hq'; omega
  ·intro t t1 t2
   have : rd (List.replicate c.length 0) t = 0 := by
    unfold rd; simp [List.getD_eq_getElem?_getD, List.getElem?_replicate]; split <;> rfl
   rw [this]; exact ⟨by omega, by omega, fun h => by omega⟩
section
variable (c : List PLc) (m : Int) (hc : c.length ≤ 24)
include hc in
theorem long_1 (i : Int) (i0 : 0 ≤ i) (p : List Int) (hp : (p.length : Int) ≤ i + 1) (Q : List Int × Int → Prop) (hn : ∀ x, i < x → x ≤ (c.length : Int) - 1 → st c m i x = true → EvP (fun k => impl_LongSteps.l0 k c m (p ++ [x]) ((c.length : Int) - 1) x) Q) : ∀ (d : Nat) (x : Int), x - i = d + 1 → x ≤ (c.length : Int) - 1 → EvP (fun k => impl_LongSteps.l1 k c m p ((c.length : Int) - 1) i x) Q := by
 intro d
 induction d with
 | zero =>
  intro x hd hx; (obtain rfl : x = i + 1 := by omega); refine EvP.step (h := fun k => (impl_mayStand.f k c i (i + 1) m).bind fun t => if t = true then impl_LongSteps.l0 k c m (p ++ [i + 1]) ((c.length : Int) - 1) (i + 1) else impl_LongSteps.l1 k c m p ((c.length : Int) - 1) i (i + 1 - 1)) (fun k => ?_) (EvP.bind (P := fun t => t = st c m i (i + 1)) ⟨_, rfl, MayStand_ c m i (i + 1) hc i0 (by omega) (by omega)⟩ (fun t ht => ?_))
  ·simp only [impl_LongSteps.l1]; rw [if_pos (show p.length < 17592186044416 by omega), w64 (n := i + 1 - 1) (by omega) (by omega)]
  ·subst ht; rw [st_next c m i i0]; exact EvP.eq (fun k => if_pos rfl) (hn (i + 1) (by omega) hx (st_next c m i i0))
 | succ d ih =>
  intro x hd hx; refine EvP.step (h := fun k => (impl_mayStand.f k c i x m).bind fun t => if t = true then impl_LongSteps.l0 k c m (p ++ [x]) ((c.length : Int) - 1) x else impl_LongSteps.l1 k c m p ((c.length : Int) - 1) i (x - 1)) (fun k => ?_) (EvP.bind (P := fun t => t = st c m i x) ⟨_, rfl, MayStand_ c m i x hc i0 (by omega) (by omega)⟩ (fun t ht => ?_))
  ·simp only [impl_LongSteps.l1]; rw [if_pos (show p.length < 17592186044416 by omega), w64 (n := x - 1) (by omega) (by omega)]
  ·subst ht
   cases hs : st c m i x with
   | true => exact EvP.eq (fun k => if_pos rfl) (hn x (by omega) hx hs)
   | false => exact EvP.eq (fun k => if_neg (by simp)) (ih (x - 1) (by omega) (by omega))
include hc in
theorem long_0 : ∀ (d : Nat) (i : Int) (p : List Int), (c.length : Int) - 1 - i ≤ d → 0 ≤ i → i ≤ (c.length : Int) - 1 → (p.length : Int) ≤ i + 1 → EvP (fun k => impl_LongSteps.l0 k c m p ((c.length : Int) - 1) i) (fun r => ∃ q, r = (p ++ q, 0) ∧ Path (st c m) ((c.length : Int) - 1) i q) := by
 intro d
 induction d with
 | zero =>
  intro i p hd h0 h1 hp; refine ⟨(p, 0), ⟨[], by simp, by simp only [Path]; omega⟩, Ev.now (fun k => ?_)⟩; simp only [impl_LongSteps.l0]; rw [if_neg (by omega)]
 | succ d ih =>
  intro i p hd h0 h1 hp; by_cases e : i = (c.length : Int) - 1
  ·refine ⟨(p, 0), ⟨[], by simp, e⟩, Ev.now (fun k => ?_)⟩; simp only [impl_LongSteps.l0]; rw [if_neg (by omega)]
  ·refine EvP.step (h := fun k => impl_LongSteps.l1 k c m p ((c.length : Int) - 1) i ((c.length : Int) - 1)) (fun k => ?_) (long_1 c m hc i h0 p hp _ (fun x x1 x2 x3 => ?_) ((c.length : Int) - 1 - i - 1).toNat _ (by omega) (by omega))
   ·simp only [impl_LongSteps.l0]; rw [if_pos (by omega)]
   ·obtain ⟨r, ⟨q, rfl, q2⟩, hr⟩ := ih x (p ++ [x]) (by omega) (by omega) x2 (by simp; omega); exact ⟨_, ⟨x :: q, by simp, x1, x2, x3, q2⟩, hr⟩
end
theorem check_ (a b : Bool) : impl_check.f a b = some (if a = true then (if b = true then 0 else 2) else 1) := by
 unfold impl_check.f; cases a <;> cases b <;> rfl
theorem Ev.bindc {α β : Type} {c : Option α} {f : Nat → α → Option β} {t : α} {r : β} (hc : c = some t) (hf : Ev (fun k => f k t) r) : Ev (fun k => c.bind (f k)) r := Ev.eq (h := fun k => f k t) (fun k => by subst hc; rfl) hf
theorem Ev.yes {α : Type} {p : Prop} [Decidable p] {g h : Nat → Option α} {r : α} (hp : p) (hr : Ev g r) : Ev (fun k => if p then g k else h k) r := Ev.eq (h := g) (fun k => if_pos hp) hr
theorem Ev.no {α : Type} {p : Prop} [Decidable p] {g h : Nat → Option α} {r : α} (hp : ¬ p) (hr : Ev h r) : Ev (fun k => if p then g k else h k) r := Ev.eq (h := h) (fun k => if_neg hp) hr
theorem Ev.is {α : Type} (r : α) : Ev (fun _ => some r) r := ⟨0, fun _ _ => rfl⟩
theorem EvP.bindc {α β : Type} {c : Option α} {f : Nat → α → Option β} {t : α} {Q : β → Prop} (hc : c = some t) (hf : EvP (fun k => f k t) Q) : EvP (fun k => c.bind (f k)) Q := EvP.eq (h := fun k => f k t) (fun k => by subst hc; rfl) hf
theorem EvP.yes {α : Type} {p : Prop} [Decidable p] {g h : Nat → Option α} {Q : α → Prop} (hp : p) (hr : EvP g Q) : EvP (fun k => if p then g k else h k) Q := EvP.eq (h := g) (fun k => if_pos hp) hr
theorem EvP.no {α : Type} {p : Prop} [Decidable p] {g h : Nat → Option α} {Q : α → Prop} (hp : ¬ p) (hr : EvP h Q) : EvP (fun k => if p then g k else h k) Q := EvP.eq (h := h) (fun k => if_neg hp) hr
theorem IsBound_ (m : Int) : impl_isBound.f m = some (decide (0 ≤ m ∧ m ≤ 3000)) := by
 unfold impl_isBound.f; rw [within_]; rfl
theorem FewestPoints_ (c : List PLc) (m : Int) (h : okCh c = true) (m0 : 0 ≤ m) (m1 : m ≤ 3000) (r : List Int) (hr : Ev (fun k => impl_fewestPoints.f k c m) r) : Ev (fun k => impl_FewestPoints.f k c m) (r, 0) := by
 refine Ev.eq (h := fun k => (impl_fewestPoints.f k c m).bind fun t => some (t, 0)) (fun k => ?_) (Ev.bind hr (Ev.is _)); unfold impl_FewestPoints.f; rw [okCh_, h, IsBound_, decide_eq_true (show 0 ≤ m ∧ m ≤ 3000 from ⟨m0, m1⟩)]; rfl
theorem LongSteps_ (c : List PLc) (m : Int) (h : okCh c = true) (m0 : 0 ≤ m) (m1 : m ≤ 3000) : ∃ q, Path (st c m) ((c.length : Int) - 1) 0 q ∧ Ev (fun k => impl_LongSteps.f k c m) (0 :: q, 0) := by
 obtain ⟨h1, h2, h3⟩ := (okCh_iff c).1 h; obtain ⟨r, ⟨q, rfl, hq⟩, hr⟩ := long_0 c m h2 c.length 0 [0] (by omega) (by omega) (by omega) (by simp); refine ⟨q, hq, Ev.eq (h := fun k => impl_LongSteps.l0 k c m [0] ((c.length : Int) - 1) 0) (fun k => ?_) hr⟩; unfold impl_LongSteps.f; rw [okCh_, h, IsBound_, decide_eq_true (show 0 ≤ m ∧ m ≤ 3000 from ⟨m0, m1⟩), w64 (n := (c.length : Int) - 1) (by omega) (by omega)]; rfl
abbrev BDr := S82
theorem bd_drop (l : List BDr) (i : Int) (h0 : 0 ≤ i) (h : i < l.length) : l.drop i.toNat = rd_T82 l i :: l.drop (i + 1).toNat := by
 rw [show (i + 1).toNat = i.toNat + 1 by omega, List.drop_eq_getElem_cons (by omega)]; unfold rd_T82; rw [List.getD_eq_getElem?_getD, List.getElem?_eq_getElem (by omega)]; rfl
theorem bd_in (l : List BDr) (i : Int) (h0 : 0 ≤ i) (h : i < l.length) : rd_T82 l i ∈ l := by
 unfold rd_T82; rw [List.getD_eq_getElem?_getD, List.getElem?_eq_getElem (by omega)]; exact List.getElem_mem _
theorem bd_take (l : List BDr) (j i : Int) (h0 : 0 ≤ i) (h1 : i < j) (h : j ≤ l.length) : rd_T82 (l.take j.toNat) i = rd_T82 l i := by
 unfold rd_T82; rw [List.getD_eq_getElem?_getD, List.getD_eq_getElem?_getD, List.getElem?_take_of_lt (by omega)]
theorem bd_at (l : List BDr) (x : BDr) (h : x ∈ l) : ∃ i : Int, 0 ≤ i ∧ i < l.length ∧ rd_T82 l i = x := by
 obtain ⟨j, hj, rfl⟩ := List.getElem_of_mem h; refine ⟨(j : Int), by omega, by omega, ?_⟩; unfold rd_T82; rw [Int.toNat_natCast, List.getD_eq_getElem?_getD, List.getElem?_eq_getElem hj]; rfl
def eqB (x y : BDr) : Bool := x.f0 == y.f0 && x.f1 == y.f1
def badB (n : Int) (L : List BDr) (i : Int) : Bool := !decide (0 ≤ (rd_T82 L i).f0 ∧ (rd_T82 L i).f0 < (rd_T82 L i).f1 ∧ (rd_T82 L i).f1 < n) || (L.take i.toNat).any (eqB (rd_T82 L i))
def okFrom (n : Int) (L : List BDr) : Nat → Int → Bool
 | 0, _ => true
 | d + 1, i => !badB n L i && okFrom n L d (i + 1)
def vB (n : Int) (L : List BDr) : Bool := okFrom n L L.length 0 && (decide (1 ≤ n ∧ n ≤ 10) && decide ((L.length : Int) ≤ 30))
theorem okFrom_iff (n : Int) (L : List BDr) : ∀ (d : Nat) (i : Int), okFrom n L d i = true ↔ ∀ j, i ≤ j → j < i + d → badB n L j = false
 | 0, i => by
  simp only [okFrom, true_iff]; intro j h1 h2; omega
 | d + 1, i => by
  simp only [okFrom, Bool.and_eq_true, Bool.not_eq_true', okFrom_iff n L d (i + 1)]; constructor
  ·rintro ⟨a, b⟩ j h1 h2; by_cases e : j = i
   ·subst e; exact a
   ·exact b j (by omega) (by omega)
  ·intro h; exact ⟨h i (by omega) (by omega), fun j h1 h2 => h j (by omega) (by omega)⟩
def okBd (n : Int) (L : List BDr) : Prop := 1 ≤ n ∧ n ≤ 10 ∧ L.length ≤ 30 ∧ ∀ x ∈ L, 0 ≤ x.f0 ∧ x.f0 < x.f1 ∧ x.f1 < n
theorem vB_says {n : Int} {L : List BDr} (h : vB n L = true) : okBd n L := by
 unfold vB at h; simp only [Bool.and_eq_true, decide_eq_true_eq] at h; obtain ⟨h1, ⟨h2, h3⟩, h4⟩ := h; refine ⟨h2, h3, by omega, fun x hx => ?_⟩; obtain ⟨i, i0, i1, rfl⟩ := bd_at L x hx; have := (okFrom_iff n L L.length 0).1 h1 i i0 (by omega); unfold badB at this; simp only [Bool.or_eq_false_iff, Bool.not_eq_false', decide_eq_true_eq] at this; exact this.1
theorem Border_l (T : List BDr) (hT : T.length ≤ 1000000) (z : BDr) : ∀ (d : Nat) (x : Int), (T.length : Int) - x = d → 0 ≤ x → EvP (fun k => impl_Border_90.l0 k T (T.length : Int) x z.f0 z.f1) (fun r => decide (r ≥ 0) = (T.drop x.toNat).any (eqB z)) := by
 intro d
 induction d with
 | zero =>
  intro x hd hx; refine ⟨-1, by rw [List.drop_eq_nil_of_le (by omega)]; rfl, Ev.now (fun k => ?_)⟩; simp only [impl_Border_90.l0]; rw [if_neg (by omega)]
 | succ d ih =>
  intro x hd hx; rw [bd_drop T x hx (by omega)]
  have e : ∀ k, impl_Border_90.l0 (k + 1) T (T.length : Int) x z.f0 z.f1 = if eqB z (rd_T82 T x) = true then some x else impl_Border_90.l0 k T (T.length : Int) (x + 1) z.f0 z.f1 := by
   intro k; simp only [impl_Border_90.l0]; rw [if_pos (by omega), if_pos hx, if_pos (by omega), w64 (n := x + 1) (by omega) (by omega)]; rfl
  cases hq : eqB z (rd_T82 T x) with
  | true => exact ⟨x, by rw [List.any_cons, hq]; simp; omega, Ev.now (fun k => by rw [e, if_pos hq])⟩
  | false =>
   obtain ⟨r, r1, hr⟩ := ih (x + 1) (by omega) (by omega); exact ⟨r, by show decide (r ≥ 0) = _; rw [List.any_cons, hq, r1]; rfl, Ev.step (fun k => by rw [e, hq, if_neg (by simp)]) hr⟩
theorem Border_ (T : List BDr) (hT : T.length ≤ 1000000) (z : BDr) : Ev (fun k => impl_Border_70.f k T z.f0 z.f1) (T.any (eqB z)) := by
 obtain ⟨r, r1, hr⟩ := Border_l T hT z T.length 0 (by omega) (by omega); rw [show T.drop (0 : Int).toNat = T from rfl] at r1; rw [← r1]; exact Ev.eq (h := fun k => (impl_Border_90.l0 k T (T.length : Int) 0 z.f0 z.f1).bind fun t => some (decide (t ≥ 0))) (fun k => rfl) (Ev.bind hr ⟨0, fun _ _ => rfl⟩)
theorem ValidB_l (n : Int) (L : List BDr) (hL : L.length ≤ 1000000) : ∀ (d : Nat) (x : Int), (L.length : Int) - x = d → 0 ≤ x → Ev (fun k => impl_ValidBorders.l0 k n L L (L.length : Int) x) (okFrom n L d x && (decide (1 ≤ n ∧ n ≤ 10) && decide ((L.length : Int) ≤ 30))) := by
 intro d
 induction d with
 | zero =>
  intro x hd hx; refine Ev.now (fun k => ?_); simp only [impl_ValidBorders.l0]; rw [if_neg (by omega), within_]; simp only [Option.bind_some, okFrom]; by_cases h : 1 ≤ n ∧ n ≤ 10
  ·simp [h]
  ·simp [h]
 | succ d ih =>
  intro x hd hx
  have e : ∀ k, impl_ValidBorders.l0 (k + 1) n L L (L.length : Int) x = if (0 ≤ (rd_T82 L x).f0 ∧ (rd_T82 L x).f0 < (rd_T82 L x).f1 ∧ (rd_T82 L x).f1 < n) then ((impl_Border_70.f k (L.take x.toNat) (rd_T82 L x).f0 (rd_T82 L x).f1).bind fun t => if t = true then some false else impl_ValidBorders.l0 k n L L (L.length : Int) (x + 1)) else some false := by
   intro k; simp only [impl_ValidBorders.l0]; rw [if_pos (by omega), if_pos hx, if_pos (by omega)]; by_cases c1 : (rd_T82 L x).f0 < 0
   ·rw [if_pos c1, if_neg (by omega)]
   ·rw [if_neg c1]; by_cases c2 : (rd_T82 L x).f0 ≥ (rd_T82 L x).f1
    ·rw [if_pos c2, if_neg (by omega)]
    ·rw [if_neg c2]; by_cases c3 : (rd_T82 L x).f1 ≥ n
     ·rw [if_pos c3, if_neg (by omega)]
     ·rw [if_neg c3, if_pos (by omega), if_pos (by omega), w64 (n := x + 1) (by omega) (by omega)]
  by_cases h : (0 ≤ (rd_T82 L x).f0 ∧ (rd_T82 L x).f0 < (rd_T82 L x).f1 ∧ (rd_T82 L x).f1 < n)
  ·refine Ev.step (fun k => by rw [e, if_pos h]) (Ev.bind (Border_ (L.take x.toNat) (by rw [List.length_take]; omega) (rd_T82 L x)) ?_)
   cases hq : (L.take x.toNat).any (eqB (rd_T82 L x)) with
   | true =>
    (have : badB n L x = true := by unfold badB; rw [hq, Bool.or_true]); simp only [okFrom, this]; exact ⟨0, fun _ _ => rfl⟩
   | false =>
    (have : badB n L x = false := by unfold badB; rw [hq, decide_eq_true h]; rfl); simp only [okFrom, this, Bool.not_false, Bool.true_and]; exact Ev.eq (fun k => if_neg (by simp)) (ih (x + 1) (by omega) (by omega))
  ·(have : badB n L x = true := by unfold badB; rw [decide_eq_false h]; rfl); simp only [okFrom, this]; exact Ev.now (fun k => by rw [e, if_neg h]; rfl)
theorem ValidB_ (n : Int) (L : List BDr) (hL : L.length ≤ 1000000) : Ev (fun k => impl_ValidBorders.f k n L) (vB n L) := ValidB_l n L hL L.length 0 (by omega) (by omega)
theorem arr_rd (S : List Int) (j : Nat) : S.toArray[j]! = rd S (j : Int) := by
 unfold rd; simp [List.getElem!_eq_getElem?_getD, List.getD_eq_getElem?_getD]
theorem keeps_rd (S : List Int) (j : Nat) : Lib.keeps S.toArray j = true ↔ (j = 0 ∨ rd S (j : Int) ≠ rd S ((j - 1 : Nat) : Int)) := by
 unfold Lib.keeps; rw [arr_rd, arr_rd]; exact decide_eq_true_iff
def srt (l : List Int) : List Int := l.mergeSort fun x y => decide (x ≤ y)
theorem srt_perm (l : List Int) : (srt l).Perm l := List.mergeSort_perm _ _
theorem srt_len (l : List Int) : (srt l).length = l.length := (srt_perm l).length_eq
theorem least_N (P : Nat → Prop) (n : Nat) (h : P n) : ∃ m, m ≤ n ∧ P m ∧ ∀ j, j < m → ¬ P j := by
 induction n using Nat.strongRecOn with
 | _ n ih =>
  by_cases c : ∃ j, j < n ∧ P j
  ·obtain ⟨j, hj, hp⟩ := c; obtain ⟨m, h1, h2, h3⟩ := ih j hj hp; exact ⟨m, by omega, h2, h3⟩
  ·exact ⟨n, Nat.le_refl _, h, fun j hj hp => c ⟨j, hj, hp⟩⟩
def nb1 (a : Int) (x : BDr) : List Int := if a = x.f0 then [x.f1] else if a = x.f1 then [x.f0] else []
theorem neigh_l (a : Int) (L : List BDr) (hL : L.length ≤ 1000000) : ∀ (d : Nat) (x : Int) (p : List Int), (L.length : Int) - x = d → 0 ≤ x → (p.length : Int) ≤ x → Ev (fun k => impl_neighboursOf.l0 k a p L (L.length : Int) x) (ascL (p ++ (L.drop x.toNat).flatMap (nb1 a))) := by
 intro d
 induction d with
 | zero =>
  intro x p hd hx hp; rw [List.drop_eq_nil_of_le (by omega)]; refine Ev.now (fun k => ?_); simp only [impl_neighboursOf.l0]; rw [if_neg (by omega)]; unfold impl_ascending.f; rw [if_pos (by omega)]; simp
 | succ d ih =>
  intro x p hd hx hp; rw [bd_drop L x hx (by omega), List.flatMap_cons, ← List.append_assoc]; (have hl : (nb1 a (rd_T82 L x)).length ≤ 1 := by unfold nb1; split <;> (try split) <;> simp); refine Ev.step (fun k => ?_) (ih (x + 1) (p ++ nb1 a (rd_T82 L x)) (by omega) (by omega) (by rw [List.length_append]; omega)); simp only [impl_neighboursOf.l0]; rw [if_pos (by omega), if_pos hx, if_pos (by omega), w64 (n := x + 1) (by omega) (by omega), if_pos (show p.length < 17592186044416 by omega), if_pos (show p.length < 17592186044416 by omega)]; unfold nb1; by_cases c1 : a = (rd_T82 L x).f0
  ·rw [if_pos c1, if_pos c1]
  ·rw [if_neg c1, if_neg c1]; by_cases c2 : a = (rd_T82 L x).f1
   ·rw [if_pos c2, if_pos c2]
   ·rw [if_neg c2, if_neg c2, List.append_nil]
theorem Neigh_ (a : Int) (L : List BDr) (hL : L.length ≤ 1000000) : Ev (fun k => impl_neighboursOf.f k L a) (ascL (L.flatMap (nb1 a))) := by
 have := neigh_l a L hL L.length 0 [] (by omega) (by omega) (by simp); rw [List.nil_append, show L.drop (0 : Int).toNat = L from rfl] at this; exact this
theorem asc_mem (l : List Int) (y : Int) : y ∈ ascL l ↔ y ∈ l := by
 have hlen := srt_len l; have e : ascL l = ((List.range l.length).filter (Lib.keeps (srt l).toArray)).map (fun j => (srt l).toArray[j]!) := rfl; rw [e, List.mem_map]; constructor
 ·rintro ⟨j, hj, rfl⟩; rw [List.mem_filter, List.mem_range] at hj; rw [arr_rd]; exact (srt_perm l).mem_iff.1 (rd_in _ _ (by omega) (by omega))
 ·intro hy; have hy := (srt_perm l).mem_iff.2 hy; obtain ⟨j, hj, hj2⟩ := List.getElem_of_mem hy
  obtain ⟨i, i1, i2, i3⟩ := least_N (fun i => i < l.length ∧ rd (srt l) (i : Int) = y) j ⟨by omega, by
   unfold rd; rw [Int.toNat_natCast, List.getD_eq_getElem?_getD, List.getElem?_eq_getElem hj]; exact hj2⟩
  refine ⟨i, ?_, by rw [arr_rd]; exact i2.2⟩; rw [List.mem_filter, List.mem_range]; refine ⟨i2.1, (keeps_rd _ _).2 ?_⟩; by_cases e0 : i = 0
  ·exact .inl e0
  ·right; intro h; exact i3 (i - 1) (by omega) ⟨by omega, by rw [← h]; exact i2.2⟩
def freeC (L : List BDr) (cs : List Int) (c : Int) : Bool := (ascL (L.flatMap (nb1 (cs.length : Int)))).all fun y => !(decide (y < (cs.length : Int)) && (rd cs y == c))
theorem mayHave_l (cs : List Int) (c : Int) (T : List Int) (hT : T.length ≤ 1000000) (h0 : ∀ y ∈ T, 0 ≤ y) : ∀ (d : Nat) (x : Int), (T.length : Int) - x = d → 0 ≤ x → Ev (fun k => impl_mayHave.l0 k cs c T (T.length : Int) x) ((T.drop x.toNat).all fun y => !(decide (y < (cs.length : Int)) && (rd cs y == c))) := by
 intro d
 induction d with
 | zero =>
  intro x hd hx; rw [List.drop_eq_nil_of_le (by omega)]; refine Ev.now (fun k => ?_); simp only [impl_mayHave.l0]; rw [if_neg (by omega)]; rfl
 | succ d ih =>
  intro x hd hx; rw [drop_rd T x hx (by omega), List.all_cons]; have hy := h0 _ (rd_in T x hx (by omega)); have hi := ih (x + 1) (by omega) (by omega)
  have e : ∀ k, impl_mayHave.l0 (k + 1) cs c T (T.length : Int) x = if (decide (rd T x < (cs.length : Int)) && (rd cs (rd T x) == c)) = true then some false else impl_mayHave.l0 k cs c T (T.length : Int) (x + 1) := by
   intro k; simp only [impl_mayHave.l0]; rw [if_pos (by omega), if_pos hx, if_pos (by omega), w64 (n := x + 1) (by omega) (by omega)]; by_cases c1 : rd T x < (cs.length : Int)
   ·rw [if_pos c1, if_pos hy, decide_eq_true c1, Bool.true_and]; by_cases c2 : rd cs (rd T x) = c
    ·rw [if_pos c2, if_pos (by simp [c2])]
    ·rw [if_neg c2, if_neg (by simp [c2])]
   ·rw [if_neg c1, decide_eq_false c1]; rfl
  cases hq : (decide (rd T x < (cs.length : Int)) && (rd cs (rd T x) == c)) with
  | true => exact Ev.now (fun k => by rw [e, hq, if_pos rfl]; rfl)
  | false =>
   rw [Bool.not_false, Bool.true_and]; exact Ev.step (fun k => by rw [e, hq, if_neg (by simp)]) hi
theorem nb_mem (a : Int) (L : List BDr) (y : Int) : y ∈ ascL (L.flatMap (nb1 a)) ↔ ∃ x ∈ L, (a = x.f0 ∧ y = x.f1) ∨ (a ≠ x.f0 ∧ a = x.f1 ∧ y = x.f0) := by
 rw [asc_mem, List.mem_flatMap]; constructor
 ·rintro ⟨x, hx, hy⟩; refine ⟨x, hx, ?_⟩; unfold nb1 at hy; by_cases c1 : a = x.f0
  ·rw [if_pos c1] at hy; exact .inl ⟨c1, by simpa using hy⟩
  ·rw [if_neg c1] at hy; by_cases c2 : a = x.f1
   ·rw [if_pos c2] at hy; exact .inr ⟨c1, c2, by simpa using hy⟩
   ·rw [if_neg c2] at hy; cases hy
 ·rintro ⟨x, hx, hy⟩; refine ⟨x, hx, ?_⟩; unfold nb1; rcases hy with ⟨h1, h2⟩ | ⟨h1, h2, h3⟩
  ·rw [if_pos h1, h2]; simp
  ·rw [if_neg h1, if_pos h2, h3]; simp
theorem MayHave_ (n : Int) (L : List BDr) (h : okBd n L) (cs : List Int) (c : Int) : Ev (fun k => impl_mayHave.f k L cs c) (freeC L cs c) := by
 obtain ⟨h1, h2, h3, h4⟩ := h
 have hlen : ∀ (l : List BDr), (l.flatMap (nb1 (cs.length : Int))).length ≤ l.length := by
  intro l
  induction l with
  | nil => simp
  | cons x r ih =>
   (have hl : (nb1 (cs.length : Int) x).length ≤ 1 := by unfold nb1; split <;> (try split) <;> simp); rw [List.flatMap_cons, List.length_append, List.length_cons]; omega
 have hs := asc_len (L.flatMap (nb1 (cs.length : Int))); have hl := hlen L; refine Ev.eq (h := fun k => (impl_neighboursOf.f k L (cs.length : Int)).bind fun t => impl_mayHave.l0 k cs c t (t.length : Int) 0) (fun k => rfl) (Ev.bind (Neigh_ (cs.length : Int) L (by omega)) (mayHave_l cs c _ (by omega) (fun y hy => ?_) _ 0 rfl (by omega))); obtain ⟨x, hx, hy⟩ := (nb_mem _ _ _).1 hy; have := h4 x hx; omega
theorem free_iff {n : Int} {L : List BDr} (h : okBd n L) (cs : List Int) (c : Int) : freeC L cs c = true ↔ ∀ x ∈ L, x.f1 = (cs.length : Int) → rd cs x.f0 ≠ c := by
 unfold freeC; rw [List.all_eq_true]; constructor
 ·intro hf x hx hxl e; have hb := h.2.2.2 x hx; have := hf x.f0 ((nb_mem _ _ _).2 ⟨x, hx, .inr ⟨by omega, hxl.symm, rfl⟩⟩); rw [decide_eq_true (by omega), e] at this; simp at this
 ·intro hf y hy; obtain ⟨x, hx, hy⟩ := (nb_mem _ _ _).1 hy; have hb := h.2.2.2 x hx; rcases hy with ⟨a, b⟩ | ⟨a, b, d⟩
  ·rw [decide_eq_false (by omega)]; rfl
  ·have := hf x hx b.symm; rw [d]; simp [this]
def firstC (g : Int → Option (List Int)) : Nat → Int → Option (List Int)
 | 0, _ => none
 | e + 1, c => match g c with
  | some r => some r
  | none => firstC g e (c + 1)
theorem firstC_some {g : Int → Option (List Int)} : ∀ (e : Nat) (x : Int) {r : List Int}, firstC g e x = some r → ∃ c, x ≤ c ∧ c < x + e ∧ g c = some r
 | 0, _, _, h => by cases h
 | e + 1, x, r, h => by
  unfold firstC at h
  cases hg : g x with
  | some q => rw [hg] at h; exact ⟨x, by omega, by omega, by rw [hg]; exact h⟩
  | none =>
   rw [hg] at h; obtain ⟨c, h1, h2, h3⟩ := firstC_some e (x + 1) h; exact ⟨c, by omega, by omega, h3⟩
theorem firstC_none {g : Int → Option (List Int)} : ∀ (e : Nat) (x : Int), firstC g e x = none → ∀ c, x ≤ c → c < x + e → g c = none
 | 0, _, _ => fun c h1 h2 => by omega
 | e + 1, x, h => fun c h1 h2 => by
  unfold firstC at h
  cases hg : g x with
  | some q => rw [hg] at h; cases h
  | none =>
   rw [hg] at h; by_cases e0 : c = x
   ·subst e0; exact hg
   ·exact firstC_none e (x + 1) h c (by omega) (by omega)
def fcP (L : List BDr) (m : Int) : Nat → List Int → Option (List Int)
 | 0, cs => some cs
 | d + 1, cs => firstC (fun c => if freeC L cs c = true then fcP L m d (cs ++ [c]) else none) m.toNat 0
def Good (L : List BDr) (cs : List Int) : Prop := ∀ x ∈ L, x.f1 < (cs.length : Int) → rd cs x.f0 ≠ rd cs x.f1
theorem rd_left (a b : List Int) (i : Int) (h0 : 0 ≤ i) (h : i < a.length) : rd (a ++ b) i = rd a i := by
 unfold rd; rw [List.getD_eq_getElem?_getD, List.getD_eq_getElem?_getD, List.getElem?_append_left (by omega)]
theorem rd_mid (a b : List Int) (c : Int) : rd (a ++ c :: b) (a.length : Int) = c := by
 unfold rd; rw [List.getD_eq_getElem?_getD, Int.toNat_natCast, List.getElem?_append_right (Nat.le_refl _)]; simp
theorem Good.more {n : Int} {L : List BDr} (h : okBd n L) {cs : List Int} (hg : Good L cs) {c : Int} (hf : freeC L cs c = true) : Good L (cs ++ [c]) := by
 intro x hx hl; have hb := h.2.2.2 x hx; rw [List.length_append, List.length_singleton] at hl; rw [rd_left _ _ _ hb.1 (by omega)]; by_cases e : x.f1 = (cs.length : Int)
 ·rw [e, rd_mid]; exact (free_iff h cs c).1 hf x hx e
 ·rw [rd_left _ _ _ (by omega) (by omega)]; exact hg x hx (by omega)
theorem fcP_sound {n : Int} {L : List BDr} (h : okBd n L) (m : Int) : ∀ (d : Nat) (cs : List Int) {r : List Int}, fcP L m d cs = some r → Good L cs → ∃ q, r = cs ++ q ∧ q.length = d ∧ (∀ y ∈ q, 0 ≤ y ∧ y < m) ∧ Good L r
 | 0, cs, r, hr, hg => by
  obtain rfl := Option.some.inj hr; exact ⟨[], by simp, rfl, by simp, hg⟩
 | d + 1, cs, r, hr, hg => by
  obtain ⟨c, c0, c1, hc⟩ := firstC_some _ _ hr; by_cases hf : freeC L cs c = true
  ·rw [if_pos hf] at hc; obtain ⟨q, q1, q2, q3, q4⟩ := fcP_sound h m d _ hc (hg.more h hf); refine ⟨c :: q, by rw [q1]; simp, by simp [q2], fun y hy => ?_, q4⟩; rcases List.mem_cons.1 hy with rfl | hy
   ·omega
   ·exact q3 y hy
  ·rw [if_neg hf] at hc; cases hc
theorem fcP_full {n : Int} {L : List BDr} (h : okBd n L) (m : Int) : ∀ (q cs : List Int), (∀ y ∈ q, 0 ≤ y ∧ y < m) → Good L (cs ++ q) → fcP L m q.length cs ≠ none
 | [], cs, _, _ => fun e => by cases e
 | c :: q, cs, hq, hg => fun e => by
  have hc := hq c (by simp); have hn := firstC_none _ _ e c hc.1 (by omega)
  have hf : freeC L cs c = true := (free_iff h cs c).2 (fun x hx hl => by
   have hb := h.2.2.2 x hx; have := hg x hx (by rw [List.length_append, List.length_cons]; omega); rw [rd_left _ _ _ hb.1 (by omega), hl, rd_mid] at this
   exact this)
  rw [if_pos hf] at hn; exact fcP_full h m q (cs ++ [c]) (fun y hy => hq y (List.mem_cons_of_mem _ hy)) (by simpa using hg) hn
theorem fcP_len (L : List BDr) (m : Int) : ∀ (d : Nat) (cs : List Int) {r : List Int}, fcP L m d cs = some r → r.length = cs.length + d
 | 0, cs, r, hr => by obtain rfl := Option.some.inj hr; rfl
 | d + 1, cs, r, hr => by
  obtain ⟨c, c0, c1, hc⟩ := firstC_some _ _ hr; by_cases hf : freeC L cs c = true
  ·rw [if_pos hf] at hc; have := fcP_len L m d _ hc; rw [this]; simp; omega
  ·rw [if_neg hf] at hc; cases hc
theorem fcl_ {n : Int} {L : List BDr} (h : okBd n L) (m : Int) (m1 : m ≤ 1000000) (d : Nat) (cs : List Int) (hcs : cs.length ≤ 100) (ih : ∀ c, Ev (fun k => fc_walk k n L m (cs ++ [c])) ((fcP L m d (cs ++ [c])).getD [])) : ∀ (e : Nat) (x : Int), (m - x).toNat = e → 0 ≤ x → Ev (fun k => fc_loop k n L m cs x) ((firstC (fun c => if freeC L cs c = true then fcP L m d (cs ++ [c]) else none) e x).getD []) := by
 intro e
 induction e with
 | zero =>
  intro x hd hx; refine Ev.now (fun k => ?_); simp only [fc_loop]; rw [if_neg (by omega)]; rfl
 | succ e ihe =>
  intro x hd hx; have hi := ihe (x + 1) (by omega) (by omega); refine Ev.step (h := fun k => (impl_mayHave.f k L cs x).bind fun ok => if ok = true then ((fc_walk k n L m (cs ++ [x])).bind fun r => if 0 < r.length then some r else fc_loop k n L m cs (x + 1)) else fc_loop k n L m cs (x + 1)) (fun k => ?_) (Ev.bind (MayHave_ n L h cs x) ?_)
  ·simp only [fc_loop]; rw [if_pos (by omega), if_pos (show cs.length < 1000 by omega), w64 (n := x + 1) (by omega) (by omega)]
  ·unfold firstC
   cases hf : freeC L cs x with
   | false =>
    simp only [Bool.false_eq_true, if_false]; exact hi
   | true =>
    simp only [if_true]; refine Ev.bind (ih x) ?_
    cases hp : fcP L m d (cs ++ [x]) with
    | none => exact hi
    | some r =>
     have := fcP_len L m d _ hp; rw [List.length_append, List.length_singleton] at this; exact Ev.eq (h := fun _ => some r) (fun k => if_pos (by show 0 < r.length; omega)) ⟨0, fun _ _ => rfl⟩
theorem fcw_ {n : Int} {L : List BDr} (h : okBd n L) (m : Int) (m1 : m ≤ 1000000) : ∀ (d : Nat) (cs : List Int), n - (cs.length : Int) = d → Ev (fun k => fc_walk k n L m cs) ((fcP L m d cs).getD [])
 | 0, cs, hd => Ev.now (fun k => by
   have := h.1; simp only [fc_walk]
   rw [if_pos (by omega), if_pos (by omega)]; rfl)
 | d + 1, cs, hd => by
  have h2 := h.2.1; refine Ev.step (fun k => ?_) (fcl_ h m m1 d cs (by omega) (fun c => fcw_ h m m1 d (cs ++ [c]) (by rw [List.length_append, List.length_singleton]; omega)) m.toNat 0 (by rw [Int.sub_zero]) (by omega)); simp only [fc_walk]; rw [if_neg (by omega)]
theorem fcP_all {n : Int} {L : List BDr} (h : okBd n L) : fcP L n n.toNat [] ≠ none := by
 have h1 := h.1
 have := fcP_full h n (from_ (fun i => i) 0 n.toNat) [] (fun y hy => by
  unfold from_ at hy; rw [List.mem_map] at hy; obtain ⟨j, hj, rfl⟩ := hy; rw [List.mem_range] at hj; show 0 ≤ 0 + (j : Int) ∧ 0 + (j : Int) < n
  omega) (fun x hx _ => by
  have hb := h.2.2.2 x hx; rw [List.nil_append, rd_from _ _ _ hb.1 (by omega), rd_from _ _ _ (by omega) (by omega)]
  omega)
 rw [from_len] at this; exact this
theorem fwl_ {n : Int} {L : List BDr} (h : okBd n L) : ∀ (e : Nat) (x : Int), 1 ≤ x → x + e ≤ 1000 → fcP L (x + e) n.toNat [] ≠ none → EvP (fun k => fw_loop k n L x) (fun y => x ≤ y ∧ y ≤ x + e ∧ fcP L y n.toNat [] ≠ none ∧ ∀ z, x ≤ z → z < y → fcP L z n.toNat [] = none) := by
 have h1 := h.1; intro e
 induction e with
 | zero =>
  intro x x0 hx hp; rw [show x + ((0 : Nat) : Int) = x by omega] at hp; refine ⟨x, ⟨by omega, by omega, hp, fun z z1 z2 => by omega⟩, Ev.step (h := fun k => (fc_walk k n L x []).bind fun r => if 0 < r.length then some x else fw_loop k n L (wrap64 (x + 1))) (fun k => rfl) (Ev.bind (fcw_ h x (by omega) n.toNat [] (by simp; omega)) ?_)⟩
  cases hq : fcP L x n.toNat [] with
  | none => exact absurd hq hp
  | some r =>
   have := fcP_len L x _ _ hq; exact Ev.eq (h := fun _ => some x) (fun k => if_pos (by show 0 < r.length; simp at this; omega)) ⟨0, fun _ _ => rfl⟩
 | succ e ih =>
  intro x x0 hx hp
  cases hq : fcP L x n.toNat [] with
  | some r =>
   refine ⟨x, ⟨by omega, by omega, by rw [hq]; simp, fun z z1 z2 => by omega⟩, Ev.step (h := fun k => (fc_walk k n L x []).bind fun r => if 0 < r.length then some x else fw_loop k n L (wrap64 (x + 1))) (fun k => rfl) (Ev.bind (fcw_ h x (by omega) n.toNat [] (by simp; omega)) ?_)⟩; rw [hq]; have := fcP_len L x _ _ hq; exact Ev.eq (h := fun _ => some x) (fun k => if_pos (by show 0 < r.length; simp at this; omega)) ⟨0, fun _ _ => rfl⟩
  | none =>
   obtain ⟨y, ⟨y1, y2, y3, y4⟩, hy⟩ := ih (x + 1) (by omega) (by omega) (by rw [show x + 1 + (e : Int) = x + ((e + 1 : Nat) : Int) by omega]; exact hp); refine ⟨y, ⟨by omega, by omega, y3, fun z z1 z2 => ?_⟩, Ev.step (h := fun k => (fc_walk k n L x []).bind fun r => if 0 < r.length then some x else fw_loop k n L (wrap64 (x + 1))) (fun k => rfl) (Ev.bind (fcw_ h x (by omega) n.toNat [] (by simp; omega)) ?_)⟩
   ·by_cases e0 : z = x
    ·subst e0; exact hq
    ·exact y4 z (by omega) z2
   ·rw [hq]; refine Ev.eq (h := fun k => fw_loop k n L (x + 1)) (fun k => ?_) hy; show (if 0 < ([] : List Int).length then some x else fw_loop k n L (wrap64 (x + 1))) = _; rw [if_neg (by simp), w64 (by omega) (by omega)]
theorem FewestC_ (n : Int) (L : List BDr) (h : vB n L = true) : EvP (fun k => impl_FewestColours.f k n L) (fun r => r.2 = 0 ∧ 1 ≤ r.1 ∧ r.1 ≤ n ∧ fcP L r.1 n.toNat [] ≠ none ∧ ∀ z, 1 ≤ z → z < r.1 → fcP L z n.toNat [] = none) := by
 have hb := vB_says h; have hb1 := hb.1; have hb2 := hb.2.1; obtain ⟨y, ⟨y1, y2, y3, y4⟩, hy⟩ := fwl_ hb (n - 1).toNat 1 (by omega) (by omega) (by rw [show 1 + (((n - 1).toNat : Nat) : Int) = n by omega]; exact fcP_all hb); refine ⟨(y, 0), ⟨rfl, y1, by show y ≤ n; omega, y3, y4⟩, Ev.eq (h := fun k => (impl_ValidBorders.f k n L).bind fun t => if t = true then (fw_loop k n L 1).bind fun t => some (t, 0) else some (0, 1)) (fun k => rfl) (Ev.bind (ValidB_ n L (by have := hb.2.2.1; omega)) (Ev.yes h (Ev.bind hy (Ev.is _))))⟩
theorem FirstC_ (n : Int) (L : List BDr) (h : vB n L = true) (m : Int) (m0 : 1 ≤ m) (m1 : m ≤ 6) (r : List Int) (hr : fcP L m n.toNat [] = some r) : Ev (fun k => impl_FirstColours.f k n L m) (r, 0) := by
 have hb := vB_says h; have hb1 := hb.1; have hl := fcP_len L m _ _ hr; have hw := fcw_ hb m (by omega) n.toNat [] (by simp; omega); rw [hr] at hw
 have hm : Ev (fun k => impl_manyCode.f k n L m) 0 := by
  refine Ev.eq (h := fun k => (impl_ValidBorders.f k n L).bind fun t => (impl_check.f t true).bind fun t => some t) (fun k => ?_) (Ev.bind (ValidB_ n L (by have := hb.2.2.1; omega)) (by rw [h, check_]; exact Ev.is _)); unfold impl_manyCode.f; rw [within_, decide_eq_true (show 1 ≤ m ∧ m ≤ 6 from ⟨m0, m1⟩)]; rfl
 refine Ev.eq (h := fun k => (impl_manyCode.f k n L m).bind fun t => if t = 0 then ((fc_walk k n L m []).bind fun r => if 0 < r.length then some (r, 0) else some ([], 3)) else some ([], t)) (fun k => rfl) (Ev.bind hm (Ev.yes rfl (Ev.bind hw (Ev.yes ?_ (Ev.is _))))); show 0 < r.length; simp at hl; omega
theorem clash_none (p : BDr → Bool) : ∀ (l : List BDr) (i : Int), (∀ x ∈ l, p x = false) → clashAt p l i = -1
 | [], _, _ => rfl
 | x :: r, i, h => by
  unfold clashAt; rw [h x (by simp), if_neg (by simp)]; exact clash_none p r (i + 1) (fun y hy => h y (List.mem_cons_of_mem _ hy))
theorem FirstClash_ (n : Int) (L : List BDr) (h : vB n L = true) (r : List Int) (hl : (r.length : Int) = n) (hr : ∀ y ∈ r, 0 ≤ y ∧ y < 10) (hg : Good L r) : Ev (fun k => impl_FirstClash.f k n L r) (-1, 0) := by
 have hb := vB_says h
 have ha : impl_areColours.f n r = some true := by
  unfold impl_areColours.f; rw [decide_eq_true hl, Bool.true_and, List.all_eq_true.2 (fun y hy => decide_eq_true (by have := hr y hy; omega))]
 have hc : impl_firstClash.f L r = some (-1) := by
  unfold impl_firstClash.f; rw [if_pos (List.all_eq_true.2 (fun x hx => decide_eq_true (by have := hb.2.2.2 x hx; omega))), clash_none _ _ _ (fun x hx => ?_)]; have := hg x hx (by have := hb.2.2.2 x hx; omega); simpa using this
 refine Ev.eq (h := fun k => (impl_ValidBorders.f k n L).bind fun t => if t = true then some (-1, 0) else some (0, 1)) (fun k => ?_) (Ev.bind (ValidB_ n L (by have := hb.2.2.1; omega)) (Ev.yes h (Ev.is _))); unfold impl_FirstClash.f; rw [ha, hc]; rfl
theorem floorDiv_ (a b : Int) (hb : 0 < b) (ha : -4611686018427387904 ≤ a) (ha2 : a ≤ 4611686018427387904) : impl_floorDiv.f a b = some (a / b) := by
 unfold impl_floorDiv.f; rw [if_neg (by omega)]; obtain ⟨h1, h2⟩ := ediv_bounds a b 4611686018427387904 hb ha ha2 (by omega); have e := floor_eq a b hb; by_cases c : Int.tmod a b < 0
 ·rw [if_pos c] at e ⊢; rw [w64 (n := Int.tdiv a b) (by omega) (by omega), w64 (by omega) (by omega), e]
 ·rw [if_neg c] at e ⊢; rw [w64 (by omega) (by omega), e]
theorem nearest_ (a b : Int) (hb : 0 < b) (hb2 : b ≤ 100000000000000000) (ha : -2000000000000000000 ≤ a) (ha2 : a ≤ 2000000000000000000) : impl_nearest.f a b = some (near a b) := by
 unfold impl_nearest.f; rw [w64 (n := 2 * a) (by omega) (by omega), w64 (n := 2 * a + b) (by omega) (by omega), w64 (n := 2 * b) (by omega) (by omega), floorDiv_ _ _ (by omega) (by omega) (by omega)]; rfl
theorem around_ (a : Int) (ha : -9223372036854775808 ≤ a) (ha2 : a ≤ 9223372036854775807) : impl_around.f a = some (a % 1296000) := by
 unfold impl_around.f; have h1 : Int.tmod a 1296000 = if 0 ≤ a then a % 1296000 else -(-a % 1296000) := tmod_eq _ _ (by omega); (have h2 : -1296000 < Int.tmod a 1296000 ∧ Int.tmod a 1296000 < 1296000 := by rw [h1]; split <;> omega); rw [w64 (n := Int.tmod a 1296000 + 1296000) (by omega) (by omega), tmod_eq _ _ (by omega), if_pos (by omega), h1]; split
 ·congr 1; omega
 ·congr 1; omega
theorem ImplSine_lo (k : Nat) (hk : 1 ≤ k) (x : Int) (h0 : 0 ≤ x) (h1 : x < 648000) : impl_sine.f k x = some (sn0 x) := by
 obtain ⟨k, rfl⟩ : ∃ m, k = m + 1 := ⟨k - 1, by omega⟩; simp only [impl_sine.f]; rw [around_ _ (by omega) (by omega)]; simp only [Option.bind_some]; rw [show x % 1296000 = x by omega, if_neg (by omega), w64 (n := 648000 - x) (by omega) (by omega)]; have hp := pp_bounds x h0 (by omega); rw [show x * (648000 - x) = pp x from rfl, w64 (n := pp x) (by omega) (by omega), w64 (n := 16000000 * pp x) (by omega) (by omega), w64 (n := 4 * pp x) (by omega) (by omega), w64 (n := 2099520000000 - 4 * pp x) (by omega) (by omega), nearest_ _ _ (by omega) (by omega) (by omega) (by omega)]; rfl
theorem ImplSine_ (k : Nat) (hk : 6 ≤ k) (a : Int) (h0 : -9223372036854775808 ≤ a) (h1 : a ≤ 9223372036854775807) : impl_sine.f k a = some (sn a) := by
 by_cases c : a % 1296000 ≥ 648000
 ·obtain ⟨k, rfl⟩ : ∃ m, k = m + 1 := ⟨k - 1, by omega⟩; simp only [impl_sine.f]; rw [around_ _ h0 h1]; simp only [Option.bind_some]; have := sn0_bounds (a % 1296000 - 648000) (by omega) (by omega); rw [if_pos c, w64 (n := a % 1296000 - 648000) (by omega) (by omega), ImplSine_lo k (by omega) _ (by omega) (by omega)]; simp only [Option.bind_some]; rw [w64 (by omega) (by omega)]; unfold sn; rw [if_pos c]
 ·have h := ImplSine_lo k (by omega) (a % 1296000) (by omega) (by omega); obtain ⟨k, rfl⟩ : ∃ m, k = m + 1 := ⟨k - 1, by omega⟩; simp only [impl_sine.f] at h ⊢; rw [around_ _ (by omega) (by omega)] at h; rw [around_ _ h0 h1]; rw [show a % 1296000 % 1296000 = a % 1296000 by omega] at h; unfold sn; rw [if_neg c]; exact h
theorem ImplCosine_ (k : Nat) (hk : 6 ≤ k) (a : Int) (h0 : -4611686018427387904 ≤ a) (h1 : a ≤ 4611686018427387904) : impl_cosine.f k a = some (cs a) := by
 unfold impl_cosine.f; rw [w64 (by omega) (by omega), ImplSine_ k hk _ (by omega) (by omega)]; rfl
theorem wrap_ (a : Int) (ha : -4611686018427387904 ≤ a) (ha2 : a ≤ 4611686018427387904) : impl_wrap.f a = some (wr a) := by
 unfold impl_wrap.f wr; rw [w64 (n := a + 648000) (by omega) (by omega), around_ _ (by omega) (by omega)]; simp only [Option.bind_some]; rw [w64 (by omega) (by omega)]
theorem ImplAlt_ (k : Nat) (hk : 6 ≤ k) (l d h : Int) (hl : -324000 ≤ l ∧ l ≤ 324000) (hd : -324000 ≤ d ∧ d ≤ 324000) (hh : -1000000000 ≤ h ∧ h ≤ 1000000000) : impl_altitudeSine.f k l d h = some (alt l d h) := by
 unfold impl_altitudeSine.f impl_cosDistance.f; have hw := wr_range h; rw [wrap_ _ (by omega) (by omega)]; simp only [Option.bind_some]; rw [ImplSine_ k hk _ (by omega) (by omega), ImplSine_ k hk _ (by omega) (by omega), ImplCosine_ k hk _ (by omega) (by omega), ImplCosine_ k hk _ (by omega) (by omega)]; simp only [Option.bind_some]; rw [w64 (n := wr h - 0) (by omega) (by omega), ImplCosine_ k hk _ (by omega) (by omega), Int.sub_zero]; simp only [Option.bind_some]; have s1 := sn_bounds l; have s2 := sn_bounds d; have c1 := cs_bounds l; have c2 := cs_bounds d; have c3 := cs_bounds (wr h); have m1 := mul_bounds (sn l) (sn d) 1000000 1000000 (by omega) (by omega) (by omega) (by omega) (by omega) (by omega); have m2 := mul_bounds (cs l) (cs d) 1000000 1000000 (by omega) (by omega) (by omega) (by omega) (by omega) (by omega); have m3 := mul_bounds (cs l * cs d) (cs (wr h)) 1000000000000 1000000 (by omega) (by omega) (by omega) (by omega) (by omega) (by omega); rw [w64 (n := sn l * sn d) (by omega) (by omega), w64 (n := sn l * sn d * 1000000) (by omega) (by omega), w64 (n := cs l * cs d) (by omega) (by omega), w64 (n := cs l * cs d * cs (wr h)) (by omega) (by omega), w64 (n := sn l * sn d * 1000000 + cs l * cs d * cs (wr h)) (by omega) (by omega), floorDiv_ _ _ (by omega) (by omega) (by omega)]; simp only [Option.bind_some]; rfl
theorem ImplUp_ (k : Nat) (hk : 6 ≤ k) (l d h : Int) (hl : -324000 ≤ l ∧ l ≤ 324000) (hd : -324000 ≤ d ∧ d ≤ 324000) (hh : -1000000000 ≤ h ∧ h ≤ 1000000000) : impl_isUp.f k l d h = some (bup l d h) := by
 unfold impl_isUp.f; rw [ImplAlt_ k hk l d h hl hd hh]; rfl
theorem isLat_ (a : Int) : impl_isLat.f a = some (decide (-324000 ≤ a ∧ a ≤ 324000)) := by
 unfold impl_isLat.f; rw [within_]; rfl
theorem ImplNeverRises_ (k : Nat) (hk : 6 ≤ k) (l d : Int) (hl : -324000 ≤ l ∧ l ≤ 324000) (hd : -324000 ≤ d ∧ d ≤ 324000) : impl_neverRises.f k l d = some (!bup l d 0) := by
 unfold impl_neverRises.f; rw [ImplUp_ k hk l d 0 hl hd (by omega)]; rfl
theorem ImplNeverSets_ (k : Nat) (hk : 6 ≤ k) (l d : Int) (hl : -324000 ≤ l ∧ l ≤ 324000) (hd : -324000 ≤ d ∧ d ≤ 324000) : impl_neverSets.f k l d = some (bup l d 648000) := by
 unfold impl_neverSets.f; rw [ImplUp_ k hk l d 648000 hl hd (by omega)]; rfl
theorem ImplSetCode_ (k : Nat) (hk : 7 ≤ k) (l d : Int) : impl_settingCode.f k l d = some (if (-324000 ≤ l ∧ l ≤ 324000) ∧ (-324000 ≤ d ∧ d ≤ 324000) then (if bup l d 0 = true then (if bup l d 648000 = true then 3 else 0) else 6) else 2) := by
 obtain ⟨k, rfl⟩ : ∃ m, k = m + 1 := ⟨k - 1, by omega⟩; unfold impl_settingCode.f; rw [isLat_, isLat_]; simp only [Option.bind_some, decide_eq_true_eq, impl_settingCode.j0]; by_cases h1 : -324000 ≤ l ∧ l ≤ 324000
 ·by_cases h2 : -324000 ≤ d ∧ d ≤ 324000
  ·rw [if_pos h1, if_neg (by simp [h2]), if_pos ⟨h1, h2⟩, ImplNeverRises_ k (by omega) l d h1 h2, ImplNeverSets_ k (by omega) l d h1 h2]; simp only [Option.bind_some]
   cases bup l d 0 <;> cases bup l d 648000 <;> rfl
  ·rw [if_pos h1, if_pos (by simp; omega), if_neg (by omega)]
 ·rw [if_neg h1, if_neg (show ¬ ((-324000 ≤ l ∧ l ≤ 324000) ∧ (-324000 ≤ d ∧ d ≤ 324000)) by omega)]; simp
theorem impl_Setting_l (l d s : Int) (hl : -324000 ≤ l ∧ l ≤ 324000) (hd : -324000 ≤ d ∧ d ≤ 324000) (hs : 1 ≤ s) (hs2 : s ≤ 648000) : ∀ (n k : Nat) (a b : Int), b - a = n → 0 ≤ a → a ≤ b → b ≤ 648000 / s → (a = 0 ∨ bup l d ((a - 1) * s) = true) → (b < 648000 / s → bup l d (b * s) = false) → n + 7 ≤ k → impl_settingHour.l0 k l d s a b = some (setm l d s * s) := by
 have hN : 648000 / s * s ≤ 648000 := Int.ediv_mul_le _ (by omega); have hN2 : 648000 / s ≤ 648000 := Int.ediv_le_self _ (by omega); (have hmul : ∀ x y : Int, x ≤ y → x * s ≤ y * s := fun x y h => Int.mul_le_mul_of_nonneg_right h (by omega)); intro n
 induction n using Nat.strongRecOn with
 | _ n ih =>
  intro k a b hn h0 hab hb ha hbf hk; obtain ⟨k, rfl⟩ : ∃ m, k = m + 1 := ⟨k - 1, by omega⟩; simp only [impl_settingHour.l0]; have hbs := hmul b (648000 / s) hb; have hb0 : 0 ≤ b * s := Int.mul_nonneg (by omega) (by omega); by_cases c : a < b
  ·rw [if_pos c, w64 (n := a + b) (by omega) (by omega), Int.tdiv_eq_ediv_of_nonneg (by omega), w64 (n := (a + b) / 2) (by omega) (by omega)]; have hms := hmul ((a + b) / 2) b (by omega); have hm0 : 0 ≤ (a + b) / 2 * s := Int.mul_nonneg (by omega) (by omega); rw [w64 (n := (a + b) / 2 * s) (by omega) (by omega), ImplUp_ k (by omega) l d _ hl hd (by omega)]; simp only [Option.bind_some]
   cases hu : bup l d ((a + b) / 2 * s) with
   | true =>
    rw [if_pos rfl, w64 (n := (a + b) / 2 + 1) (by omega) (by omega)]; exact ih (b - ((a + b) / 2 + 1)).toNat (by omega) k _ _ (by omega) (by omega) (by omega) hb (.inr (by rw [show (a + b) / 2 + 1 - 1 = (a + b) / 2 by omega]; exact hu)) hbf (by omega)
   | false =>
    rw [if_neg (by simp)]; exact ih ((a + b) / 2 - a).toNat (by omega) k _ _ (by omega) h0 (by omega) (by omega) ha (fun _ => hu) (by omega)
  ·(have e : a = b := by omega); subst e; rw [if_neg c, w64 (by omega) (by omega)]; congr 2; symm; refine setm_is l d s a hs (by omega) hb (fun j hj hj2 => ?_) hbf; rcases ha with ha | ha
   ·omega
   ·have := hmul j (a - 1) (by omega); have := hmul (a - 1) a (by omega); exact up_hour l d (j * s) ((a - 1) * s) hl hd (Int.mul_nonneg hj (by omega)) (by omega) (by omega) ha
theorem ImplSetting_ (l d s : Int) (hl : -324000 ≤ l ∧ l ≤ 324000) (hd : -324000 ≤ d ∧ d ≤ 324000) (hs : 1 ≤ s) (hs2 : s ≤ 648000) (k : Nat) (hk : 648010 ≤ k) : impl_settingHour.f k l d s = some (setm l d s * s) := by
 unfold impl_settingHour.f; have hN2 : 648000 / s ≤ 648000 := Int.ediv_le_self _ (by omega); have hN3 : 1 ≤ 648000 / s := Int.le_ediv_of_mul_le (by omega) (by omega); rw [if_neg (by omega), Int.tdiv_eq_ediv_of_nonneg (by omega), w64 (by omega) (by omega)]; exact impl_Setting_l l d s hl hd hs hs2 (648000 / s).toNat k 0 _ (by omega) (by omega) (by omega) (by omega) (.inl rfl) (fun h => by omega) (by omega)
theorem ImplSettingHour_ (l d : Int) (k : Nat) (hk : 648010 ≤ k) : impl_SettingHour.f k l d = some (if (-324000 ≤ l ∧ l ≤ 324000) ∧ (-324000 ≤ d ∧ d ≤ 324000) then (if bup l d 0 = true then (if bup l d 648000 = true then (0, 3) else (setm l d 1, 0)) else (0, 6)) else (0, 2)) := by
 unfold impl_SettingHour.f; rw [ImplSetCode_ k (by omega)]; simp only [Option.bind_some]; by_cases h : (-324000 ≤ l ∧ l ≤ 324000) ∧ (-324000 ≤ d ∧ d ≤ 324000)
 ·rw [if_pos h, if_pos h]; by_cases h1 : bup l d 0 = true
  ·by_cases h2 : bup l d 648000 = true
   ·rw [if_pos h1, if_pos h2, if_neg (by omega), if_pos h1, if_pos h2]
   ·rw [if_pos h1, if_neg h2, if_pos rfl, if_pos h1, if_neg h2, ImplSetting_ l d 1 h.1 h.2 (by omega) (by omega) k hk, Int.mul_one]; rfl
  ·rw [if_neg h1, if_neg (by omega), if_neg h1]
 ·rw [if_neg h, if_neg (by omega), if_neg h]
theorem Lat_ (a : Int) : spec_l21Lat.f a = some (decide (-324000 ≤ a ∧ a ≤ 324000)) := by
 unfold spec_l21Lat.f; rw [In_]; rfl
theorem Code21_ (l d h : Int) : spec_l21Code.f l d h = some (if (-324000 ≤ l ∧ l ≤ 324000) ∧ (-324000 ≤ d ∧ d ≤ 324000) ∧ 0 ≤ h ∧ h ≤ 648000 then 0 else 2) := by
 unfold spec_l21Code.f; rw [Lat_, Lat_, In_]; simp only [Option.bind_some, decide_eq_true_eq]; by_cases h1 : -324000 ≤ l ∧ l ≤ 324000
 ·by_cases h2 : -324000 ≤ d ∧ d ≤ 324000
  ·by_cases h3 : 0 ≤ h ∧ h ≤ 648000
   ·rw [if_pos h1, if_pos h2, if_pos h3, if_pos ⟨h1, h2, h3⟩]
   ·rw [if_pos h1, if_pos h2, if_neg h3, if_neg (by omega)]
  ·rw [if_pos h1, if_neg h2, if_neg (by omega)]
 ·rw [if_neg h1, if_neg (by omega)]
theorem Floor_ (a b : Int) (hb : 0 < b) (ha : -4611686018427387904 ≤ a) (ha2 : a ≤ 4611686018427387904) : spec_l00Floor.f a b = some (a / b) := by
 unfold spec_l00Floor.f; rw [if_neg (by omega)]; obtain ⟨h1, h2⟩ := ediv_bounds a b 4611686018427387904 hb ha ha2 (by omega); have e := floor_eq a b hb; by_cases c : Int.tmod a b < 0
 ·rw [if_pos c] at e ⊢; rw [w64 (n := Int.tdiv a b) (by omega) (by omega), w64 (by omega) (by omega), e]
 ·rw [if_neg c] at e ⊢; rw [w64 (by omega) (by omega), e]
theorem Round_ (a b : Int) (hb : 0 < b) (hb2 : b ≤ 100000000000000000) (ha : -2000000000000000000 ≤ a) (ha2 : a ≤ 2000000000000000000) : spec_l00Round.f a b = some (near a b) := by
 unfold spec_l00Round.f; rw [w64 (n := 2 * a) (by omega) (by omega), w64 (n := 2 * a + b) (by omega) (by omega), w64 (n := 2 * b) (by omega) (by omega), Floor_ _ _ (by omega) (by omega) (by omega)]; rfl
theorem SpecSine_lo (k : Nat) (hk : 2 ≤ k) (x : Int) (h0 : 0 ≤ x) (h1 : x ≤ 648000) : spec_l03Sine.f k x = some (sn0 x) := by
 obtain ⟨k, rfl⟩ : ∃ m, k = m + 2 := ⟨k - 2, by omega⟩; (have tm : Int.tmod x 1296000 = x := by rw [tmod_eq _ _ (by omega), if_pos h0]; omega); simp only [spec_l03Sine.f]; rw [tm, if_neg (by omega)]; simp only [spec_l03Sine.j0]; rw [if_neg (by omega), w64 (n := 648000 - x) (by omega) (by omega)]; have hp := pp_bounds x h0 h1; rw [show x * (648000 - x) = pp x from rfl, w64 (n := pp x) (by omega) (by omega), w64 (n := 16 * pp x) (by omega) (by omega), w64 (n := 16 * pp x * 1000000) (by omega) (by omega), w64 (n := 5 * 648000) (by omega) (by omega), w64 (n := 5 * 648000 * 648000) (by omega) (by omega), w64 (n := 4 * pp x) (by omega) (by omega), w64 (n := 5 * 648000 * 648000 - 4 * pp x) (by omega) (by omega), Round_ _ _ (by omega) (by omega) (by omega) (by omega)]; simp only [Option.bind_some]; unfold sn0 sp; rw [show 16 * pp x * 1000000 = 16000000 * pp x by omega, show 5 * 648000 * 648000 - 4 * pp x = 2099520000000 - 4 * pp x by omega]
theorem SpecSine_j (k : Nat) (hk : 3 ≤ k) (x : Int) (h0 : 0 ≤ x) (h1 : x < 1296000) : spec_l03Sine.j0 k 648000 x = some (if x ≥ 648000 then -(sn0 (x - 648000)) else sn0 x) := by
 by_cases c : x > 648000
 ·obtain ⟨k, rfl⟩ : ∃ m, k = m + 1 := ⟨k - 1, by omega⟩; simp only [spec_l03Sine.j0]; have := sn0_bounds (x - 648000) (by omega) (by omega); rw [if_pos c, w64 (n := x - 648000) (by omega) (by omega), SpecSine_lo k (by omega) _ (by omega) (by omega)]; simp only [Option.bind_some]; rw [w64 (by omega) (by omega), if_pos (by omega)]
 ·have h := SpecSine_lo (k + 1) (by omega) x h0 (by omega); (have tm : Int.tmod x 1296000 = x := by rw [tmod_eq _ _ (by omega), if_pos h0]; omega); simp only [spec_l03Sine.f] at h; rw [tm, if_neg (by omega)] at h; rw [h]; by_cases e : x = 648000
  ·subst e; decide
  ·rw [if_neg (by omega)]
theorem SpecSine_ (k : Nat) (hk : 6 ≤ k) (a : Int) : spec_l03Sine.f k a = some (sn a) := by
 obtain ⟨k, rfl⟩ : ∃ m, k = m + 1 := ⟨k - 1, by omega⟩; simp only [spec_l03Sine.f]; have tm := tmod_eq a 1296000 (by omega); by_cases c : Int.tmod a 1296000 < 0
 ·(have e : Int.tmod a 1296000 + 1296000 = a % 1296000 := by rw [tm] at c ⊢; split at c <;> omega); rw [if_pos c, e, w64 (by omega) (by omega), SpecSine_j k (by omega) _ (by omega) (by omega)]; rfl
 ·(have e : Int.tmod a 1296000 = a % 1296000 := by rw [tm] at c ⊢; split at c <;> omega); rw [if_neg c, e, SpecSine_j k (by omega) _ (by omega) (by omega)]; rfl
theorem SpecCosine_ (k : Nat) (hk : 6 ≤ k) (a : Int) (h0 : -4611686018427387904 ≤ a) (h1 : a ≤ 4611686018427387904) : spec_l03Cosine.f k a = some (cs a) := by
 unfold spec_l03Cosine.f; rw [w64 (by omega) (by omega), SpecSine_ k hk]; rfl
theorem Min_ (a b : Int) : spec_l00Min.f a b = some (mn a b) := by
 unfold spec_l00Min.f mn; by_cases h : a < b
 ·rw [if_pos h, if_neg (by omega)]
 ·rw [if_neg h]; by_cases h2 : b < a
  ·rw [if_pos h2]
  ·rw [if_neg h2, show a = b by omega]
theorem Max_ (a b : Int) : spec_l00Max.f a b = some (mx a b) := by
 unfold spec_l00Max.f mx; by_cases h : a > b
 ·rw [if_pos h, if_neg (by omega)]
 ·rw [if_neg h]; by_cases h2 : a < b
  ·rw [if_pos h2]
  ·rw [if_neg h2, show a = b by omega]
theorem Wrap_ (a : Int) (ha : -4611686018427387904 ≤ a) (ha2 : a ≤ 4611686018427387904) : spec_l02Wrap.f a = some (wr a) := by
 unfold spec_l02Wrap.f wr; rw [w64 (n := a + 648000) (by omega) (by omega), tmod_eq _ _ (by omega)]; by_cases h : 0 ≤ a + 648000
 ·rw [if_pos h, if_neg (by omega), w64 (by omega) (by omega)]
 ·rw [if_neg h]; by_cases h2 : -(-(a + 648000) % 1296000) < 0
  ·rw [if_pos h2, w64 (n := -(-(a + 648000) % 1296000) + 1296000) (by omega) (by omega), w64 (by omega) (by omega)]; congr 1; omega
  ·rw [if_neg h2, w64 (by omega) (by omega)]; congr 1; omega
theorem SpecAlt_ (k : Nat) (hk : 6 ≤ k) (l d h : Int) (hl : -324000 ≤ l ∧ l ≤ 324000) (hd : -324000 ≤ d ∧ d ≤ 324000) (hh : -1000000000 ≤ h ∧ h ≤ 1000000000) : spec_l21Sine.f k l d h = some (alt l d h) := by
 unfold spec_l21Sine.f spec_l05Cos.f; have hw := wr_range h; rw [Wrap_ _ (by omega) (by omega)]; simp only [Option.bind_some]; rw [SpecSine_ k hk, SpecSine_ k hk, SpecCosine_ k hk _ (by omega) (by omega), SpecCosine_ k hk _ (by omega) (by omega)]; simp only [Option.bind_some]; rw [w64 (n := wr h - 0) (by omega) (by omega), SpecCosine_ k hk _ (by omega) (by omega), Int.sub_zero]; simp only [Option.bind_some]; have s1 := sn_bounds l; have s2 := sn_bounds d; have c1 := cs_bounds l; have c2 := cs_bounds d; have c3 := cs_bounds (wr h); have m1 := mul_bounds (sn l) (sn d) 1000000 1000000 (by omega) (by omega) (by omega) (by omega) (by omega) (by omega); have m2 := mul_bounds (cs l) (cs d) 1000000 1000000 (by omega) (by omega) (by omega) (by omega) (by omega) (by omega); have m3 := mul_bounds (cs l * cs d) (cs (wr h)) 1000000000000 1000000 (by omega) (by omega) (by omega) (by omega) (by omega) (by omega); rw [w64 (n := sn l * sn d) (by omega) (by omega), w64 (n := sn l * sn d * 1000000) (by omega) (by omega), w64 (n := cs l * cs d) (by omega) (by omega), w64 (n := cs l * cs d * cs (wr h)) (by omega) (by omega), w64 (n := sn l * sn d * 1000000 + cs l * cs d * cs (wr h)) (by omega) (by omega), Floor_ _ _ (by omega) (by omega) (by omega)]; simp only [Option.bind_some]; rw [Min_]; simp only [Option.bind_some]; rw [Max_]; rfl
theorem SpecUp_ (k : Nat) (hk : 6 ≤ k) (l d h : Int) (hl : -324000 ≤ l ∧ l ≤ 324000) (hd : -324000 ≤ d ∧ d ≤ 324000) (hh : -1000000000 ≤ h ∧ h ≤ 1000000000) : spec_l21Up.f k l d h = some (bup l d h) := by
 unfold spec_l21Up.f; rw [SpecAlt_ k hk l d h hl hd hh]; rfl
theorem SpecSets_ (k : Nat) (hk : 6 ≤ k) (l d : Int) (hl : -324000 ≤ l ∧ l ≤ 324000) (hd : -324000 ≤ d ∧ d ≤ 324000) : spec_l21Sets.f k l d = some (if bup l d 0 = true then (if bup l d 648000 = true then 3 else 0) else 6) := by
 unfold spec_l21Sets.f; rw [SpecUp_ k hk l d 0 hl hd (by omega), SpecUp_ k hk l d 648000 hl hd (by omega)]; simp only [Option.bind_some]
 cases bup l d 0 <;> cases bup l d 648000 <;> rfl
theorem spec_Setting_l (l d s : Int) (hl : -324000 ≤ l ∧ l ≤ 324000) (hd : -324000 ≤ d ∧ d ≤ 324000) (hs : 1 ≤ s) (hs2 : s ≤ 648000) : ∀ (n k : Nat) (a b : Int), b - a = n → 0 ≤ a → a < b → b ≤ 648000 / s → bup l d (a * s) = true → (b < 648000 / s → bup l d (b * s) = false) → n + 6 ≤ k → spec_l21Setting.l0 k l d s a b = some (setm l d s * s) := by
 have hN : 648000 / s * s ≤ 648000 := Int.ediv_mul_le _ (by omega); have hN2 : 648000 / s ≤ 648000 := Int.ediv_le_self _ (by omega); (have hmul : ∀ x y : Int, x ≤ y → x * s ≤ y * s := fun x y h => Int.mul_le_mul_of_nonneg_right h (by omega)); intro n
 induction n using Nat.strongRecOn with
 | _ n ih =>
  intro k a b hn h0 hab hb ha hbf hk; obtain ⟨k, rfl⟩ : ∃ m, k = m + 1 := ⟨k - 1, by omega⟩; simp only [spec_l21Setting.l0]; have hbs := hmul b (648000 / s) hb; have hb0 : 0 ≤ b * s := Int.mul_nonneg (by omega) (by omega); rw [w64 (n := b - a) (by omega) (by omega)]; by_cases c : b - a > 1
  ·rw [if_pos c, w64 (n := a + b) (by omega) (by omega), Int.tdiv_eq_ediv_of_nonneg (by omega), w64 (n := (a + b) / 2) (by omega) (by omega)]; have hms := hmul ((a + b) / 2) b (by omega); have hm0 : 0 ≤ (a + b) / 2 * s := Int.mul_nonneg (by omega) (by omega); rw [w64 (n := (a + b) / 2 * s) (by omega) (by omega), SpecUp_ k (by omega) l d _ hl hd (by omega)]; simp only [Option.bind_some]
   cases hu : bup l d ((a + b) / 2 * s) with
   | true =>
    rw [if_pos rfl]; exact ih (b - (a + b) / 2).toNat (by omega) k _ _ (by omega) (by omega) (by omega) hb hu hbf (by omega)
   | false =>
    rw [if_neg (by simp)]; exact ih ((a + b) / 2 - a).toNat (by omega) k _ _ (by omega) h0 (by omega) (by omega) ha (fun _ => hu) (by omega)
  ·rw [if_neg c, w64 (by omega) (by omega)]; congr 2; symm; refine setm_is l d s b hs (by omega) hb (fun j hj hj2 => ?_) hbf; have := hmul j a (by omega); have := hmul a b (by omega); exact up_hour l d (j * s) (a * s) hl hd (Int.mul_nonneg hj (by omega)) (by omega) (by omega) ha
theorem SpecSetting_ (l d s : Int) (hl : -324000 ≤ l ∧ l ≤ 324000) (hd : -324000 ≤ d ∧ d ≤ 324000) (hs : 1 ≤ s) (hs2 : s ≤ 648000) (hu : bup l d 0 = true) (k : Nat) (hk : 648010 ≤ k) : spec_l21Setting.f k l d s = some (setm l d s * s) := by
 unfold spec_l21Setting.f; have hN2 : 648000 / s ≤ 648000 := Int.ediv_le_self _ (by omega); have hN3 : 1 ≤ 648000 / s := Int.le_ediv_of_mul_le (by omega) (by omega); rw [if_neg (by omega), Int.tdiv_eq_ediv_of_nonneg (by omega), w64 (by omega) (by omega)]; exact spec_Setting_l l d s hl hd hs hs2 (648000 / s).toNat k 0 _ (by omega) (by omega) (by omega) (by omega) (by simpa using hu) (fun h => by omega) (by omega)
def turnOk (v : Int) : Prop := 4 ≤ v ∧ v ≤ 1440 ∧ v % 2 = 0 ∧ 1296000 % v = 0
instance (v : Int) : Decidable (turnOk v) := by unfold turnOk; exact inferInstance
theorem turn_step (v : Int) (h : turnOk v) : 900 ≤ 1296000 / v ∧ 1296000 / v ≤ 324000 ∧ 648000 / (1296000 / v) * (1296000 / v) = 648000 ∧ 1296000 / v * v = 1296000 := by
 obtain ⟨h1, h2, h3, h4⟩ := h; have e : 1296000 / v * v = 1296000 := Int.ediv_mul_cancel (Int.dvd_of_emod_eq_zero h4); have a : 900 ≤ 1296000 / v := Int.le_ediv_of_mul_le (by omega) (by omega)
 have b : 1296000 / v ≤ 324000 := by
  have : 1296000 / v < 324001 := Int.ediv_lt_of_lt_mul (by omega) (by omega); omega
 refine ⟨a, b, ?_, e⟩; obtain ⟨u, hu⟩ : ∃ u, v = 2 * u := ⟨v / 2, by omega⟩; subst hu; generalize 1296000 / (2 * u) = s at *
 have e2 : s * u = 648000 := by
  (have : s * (2 * u) = 2 * (s * u) := by rw [Int.mul_left_comm]); omega
 rw [← e2, Int.mul_ediv_cancel_left _ (by omega), Int.mul_comm]
theorem SpecTurning_ (l d v : Int) (k : Nat) (hk : 648011 ≤ k) : spec_SettingByTurning.f k l d v = some (if ((-324000 ≤ l ∧ l ≤ 324000) ∧ (-324000 ≤ d ∧ d ≤ 324000)) ∧ turnOk v then (if bup l d 0 = true then (if bup l d 648000 = true then (0, 3) else (setm l d (1296000 / v) * (1296000 / v), 0)) else (0, 6)) else (0, 2)) := by
 obtain ⟨k, rfl⟩ : ∃ m, k = m + 1 := ⟨k - 1, by omega⟩; unfold spec_SettingByTurning.f; rw [Code21_, In_]; simp only [Option.bind_some, decide_eq_true_eq, spec_SettingByTurning.j0]; by_cases h : (-324000 ≤ l ∧ l ≤ 324000) ∧ (-324000 ≤ d ∧ d ≤ 324000)
 ·have hh : (-324000 ≤ l ∧ l ≤ 324000) ∧ (-324000 ≤ d ∧ d ≤ 324000) ∧ (0 : Int) ≤ 0 ∧ (0 : Int) ≤ 648000 := ⟨h.1, h.2, by omega, by omega⟩; rw [if_pos hh, if_pos rfl]; by_cases h2 : 4 ≤ v ∧ v ≤ 1440
  ·(have hv : ¬ v = 0 := by omega); (have hv0 : 0 ≤ v := by omega); rw [if_pos h2, tmod_eq v 2 (by omega), if_pos hv0]; by_cases h3 : v % 2 = 0
   ·rw [if_pos h3]; rw [if_neg hv]; by_cases h4 : (1296000 : Int) % v = 0
    ·have ht : turnOk v := ⟨h2.1, h2.2, h3, h4⟩; obtain ⟨t1, t2, t3, t4⟩ := turn_step v ht; (have hb : ¬ ((1296000 : Int) % v != 0) = true := by simp [h4]); rw [if_neg hb, if_pos (And.intro h ht), SpecSets_ k (by omega) l d h.1 h.2]; simp only [Option.bind_some]; by_cases h5 : bup l d 0 = true
     ·by_cases h6 : bup l d 648000 = true
      ·simp only [h5, h6, if_true]; simp
      ·simp only [h5, h6, if_true, if_false]; rw [if_neg hv, Int.tdiv_eq_ediv_of_nonneg (by omega), w64 (by omega) (by omega), SpecSetting_ l d _ h.1 h.2 (by omega) (by omega) h5 k (by omega)]; simp
     ·simp only [h5, if_false]; simp
    ·(have hb : ((1296000 : Int) % v != 0) = true := by simp [h4]); rw [if_pos hb, if_neg (fun x => h4 x.2.2.2.2)]
   ·rw [if_neg h3, if_neg (show ¬ (((-324000 ≤ l ∧ l ≤ 324000) ∧ (-324000 ≤ d ∧ d ≤ 324000)) ∧ turnOk v) from fun x => h3 x.2.2.2.1)]; simp
  ·rw [if_neg h2, if_neg (show ¬ (((-324000 ≤ l ∧ l ≤ 324000) ∧ (-324000 ≤ d ∧ d ≤ 324000)) ∧ turnOk v) from fun x => h2 ⟨x.2.1, x.2.2.1⟩)]; simp
 ·rw [if_neg (show ¬ ((-324000 ≤ l ∧ l ≤ 324000) ∧ (-324000 ≤ d ∧ d ≤ 324000) ∧ (0 : Int) ≤ 0 ∧ (0 : Int) ≤ 648000) by omega), if_neg (show ¬ ((2 : Int) = 0) by omega), if_neg (show ¬ (((-324000 ≤ l ∧ l ≤ 324000) ∧ (-324000 ≤ d ∧ d ≤ 324000)) ∧ turnOk v) from fun x => h x.1)]; simp
theorem ImplTurning_ (l d v : Int) (k : Nat) (hk : 648011 ≤ k) : impl_SettingByTurning.f k l d v = some (if ((-324000 ≤ l ∧ l ≤ 324000) ∧ (-324000 ≤ d ∧ d ≤ 324000)) ∧ turnOk v then (if bup l d 0 = true then (if bup l d 648000 = true then (0, 3) else (setm l d (1296000 / v) * (1296000 / v), 0)) else (0, 6)) else (0, 2)) := by
 obtain ⟨k, rfl⟩ : ∃ m, k = m + 1 := ⟨k - 1, by omega⟩; unfold impl_SettingByTurning.f; rw [within_]; simp only [Option.bind_some, decide_eq_true_eq, impl_SettingByTurning.j0]; by_cases h2 : 4 ≤ v ∧ v ≤ 1440
 ·(have hv : ¬ v = 0 := by omega); (have hv0 : 0 ≤ v := by omega); rw [if_pos h2, tmod_eq v 2 (by omega), if_pos hv0]; by_cases h3 : v % 2 = 0
  ·rw [if_pos h3]; rw [if_neg hv]; by_cases h4 : (1296000 : Int) % v = 0
   ·have ht : turnOk v := ⟨h2.1, h2.2, h3, h4⟩; obtain ⟨t1, t2, t3, t4⟩ := turn_step v ht; (have hb : ¬ ((1296000 : Int) % v != 0) = true := by simp [h4]); rw [if_neg hb, ImplSetCode_ k (by omega)]; simp only [Option.bind_some]; by_cases h : (-324000 ≤ l ∧ l ≤ 324000) ∧ (-324000 ≤ d ∧ d ≤ 324000)
    ·rw [if_pos (And.intro h ht), if_pos h]; by_cases h5 : bup l d 0 = true
     ·by_cases h6 : bup l d 648000 = true
      ·simp only [h5, h6, if_true]; simp
      ·simp only [h5, h6, if_true, if_false]; rw [if_neg hv, Int.tdiv_eq_ediv_of_nonneg (by omega), w64 (by omega) (by omega), ImplSetting_ l d _ h.1 h.2 (by omega) (by omega) k (by omega)]; simp
     ·simp only [h5, if_false]; simp
    ·rw [if_neg h, if_neg (show ¬ ((2 : Int) = 0) by omega), if_neg (fun x => h x.1)]
   ·(have hb : ((1296000 : Int) % v != 0) = true := by simp [h4]); rw [if_pos hb, if_neg (fun x => h4 x.2.2.2.2)]
  ·rw [if_neg h3, if_neg (show ¬ (((-324000 ≤ l ∧ l ≤ 324000) ∧ (-324000 ≤ d ∧ d ≤ 324000)) ∧ turnOk v) from fun x => h3 x.2.2.2.1)]; simp
 ·rw [if_neg h2, if_neg (show ¬ (((-324000 ≤ l ∧ l ≤ 324000) ∧ (-324000 ≤ d ∧ d ≤ 324000)) ∧ turnOk v) from fun x => h2 ⟨x.2.1, x.2.2.1⟩)]; simp
theorem SpecSettingHour_ (l d : Int) (k : Nat) (hk : 648010 ≤ k) : spec_SettingHour.f k l d = some (if (-324000 ≤ l ∧ l ≤ 324000) ∧ (-324000 ≤ d ∧ d ≤ 324000) then (if bup l d 0 = true then (if bup l d 648000 = true then (0, 3) else (setm l d 1, 0)) else (0, 6)) else (0, 2)) := by
 unfold spec_SettingHour.f; rw [Code21_]; simp only [Option.bind_some]; by_cases h : (-324000 ≤ l ∧ l ≤ 324000) ∧ (-324000 ≤ d ∧ d ≤ 324000)
 ·rw [if_pos (show _ ∧ _ ∧ _ from ⟨h.1, h.2, by omega, by omega⟩), if_pos rfl, if_pos h, SpecSets_ k (by omega) l d h.1 h.2]; simp only [Option.bind_some]; by_cases h1 : bup l d 0 = true
  ·by_cases h2 : bup l d 648000 = true
   ·rw [if_pos h1, if_pos h2, if_neg (by omega), if_pos h1, if_pos h2]
   ·rw [if_pos h1, if_neg h2, if_pos rfl, if_pos h1, if_neg h2, SpecSetting_ l d 1 h.1 h.2 (by omega) (by omega) h1 k hk, Int.mul_one]; rfl
  ·rw [if_neg h1, if_neg (by omega), if_neg h1]
 ·rw [if_neg (by omega), if_neg (by omega), if_neg h]
theorem SpecIsUp_ (l d h : Int) (k : Nat) (hk : 6 ≤ k) : spec_IsUp.f k l d h = some (if (-324000 ≤ l ∧ l ≤ 324000) ∧ (-324000 ≤ d ∧ d ≤ 324000) ∧ 0 ≤ h ∧ h ≤ 648000 then (bup l d h, 0) else (false, 2)) := by
 unfold spec_IsUp.f; rw [Code21_]; simp only [Option.bind_some]; by_cases c : (-324000 ≤ l ∧ l ≤ 324000) ∧ (-324000 ≤ d ∧ d ≤ 324000) ∧ 0 ≤ h ∧ h ≤ 648000
 ·rw [if_pos c, if_pos rfl, if_pos c, SpecUp_ k hk l d h c.1 c.2.1 (by omega)]; rfl
 ·rw [if_neg c, if_neg (by omega), if_neg c]
theorem hourE (l d : Int) (hl : -324000 ≤ l ∧ l ≤ 324000) (hd : -324000 ≤ d ∧ d ≤ 324000) : Ev (fun k => impl_SettingHour.f k l d) (if bup l d 0 = true then (if bup l d 648000 = true then (0, 3) else (setm l d 1, 0)) else (0, 6)) := ⟨648010, fun k hk => by show impl_SettingHour.f k l d = _; rw [ImplSettingHour_ l d k hk, if_pos ⟨hl, hd⟩]⟩
theorem hourS (l d : Int) (hl : -324000 ≤ l ∧ l ≤ 324000) (hd : -324000 ≤ d ∧ d ≤ 324000) : Ev (fun k => spec_SettingHour.f k l d) (if bup l d 0 = true then (if bup l d 648000 = true then (0, 3) else (setm l d 1, 0)) else (0, 6)) := ⟨648010, fun k hk => by show spec_SettingHour.f k l d = _; rw [SpecSettingHour_ l d k hk, if_pos ⟨hl, hd⟩]⟩
theorem turnE (l d v : Int) (hl : -324000 ≤ l ∧ l ≤ 324000) (hd : -324000 ≤ d ∧ d ≤ 324000) (hv : turnOk v) : Ev (fun k => impl_SettingByTurning.f k l d v) (if bup l d 0 = true then (if bup l d 648000 = true then (0, 3) else (setm l d (1296000 / v) * (1296000 / v), 0)) else (0, 6)) := ⟨648011, fun k hk => by show impl_SettingByTurning.f k l d v = _; rw [ImplTurning_ l d v k hk, if_pos ⟨⟨hl, hd⟩, hv⟩]⟩
theorem turnS (l d v : Int) (hl : -324000 ≤ l ∧ l ≤ 324000) (hd : -324000 ≤ d ∧ d ≤ 324000) (hv : turnOk v) : Ev (fun k => spec_SettingByTurning.f k l d v) (if bup l d 0 = true then (if bup l d 648000 = true then (0, 3) else (setm l d (1296000 / v) * (1296000 / v), 0)) else (0, 6)) := ⟨648011, fun k hk => by show spec_SettingByTurning.f k l d v = _; rw [SpecTurning_ l d v k hk, if_pos ⟨⟨hl, hd⟩, hv⟩]⟩
theorem upE (l d : Int) (hl : -324000 ≤ l ∧ l ≤ 324000) (hd : -324000 ≤ d ∧ d ≤ 324000) : Ev (fun k => spec_IsUp.f k l d 0) (bup l d 0, 0) := ⟨6, fun k hk => by show spec_IsUp.f k l d 0 = _; rw [SpecIsUp_ l d 0 k hk, if_pos ⟨hl, hd, by omega⟩]⟩
theorem sky_ (l d v : Int) (hl : -324000 ≤ l ∧ l ≤ 324000) (hd : -324000 ≤ d ∧ d ≤ 324000) (hv : turnOk v) : Ev (fun k => (impl_SettingHour.f k l d).bind fun a => (impl_SettingByTurning.f k l d v).bind fun b => if a.2 = b.2 then (if a.2 = 0 then ((spec_SettingHour.f k l d).bind fun e => (spec_SettingByTurning.f k l d v).bind fun f => if a.1 = e.1 then (if b.1 = f.1 then (if v = 0 then none else (if a.1 ≥ 1 then (if a.1 ≤ 648000 then (if b.1 ≥ a.1 then (if (wrap64 (b.1 - a.1)) < (wrap64 (Int.tdiv (1296000 : Int) v)) then (if (wrap64 (Int.tdiv (1296000 : Int) v)) = 0 then none else (some ((Int.tmod b.1 (wrap64 (Int.tdiv (1296000 : Int) v))) == 0))) else none) else none) else none) else none)) else none) else none) else ((spec_IsUp.f k l d 0).bind fun g => if g.2 = 0 then (if (g.1 == (a.2 == 3)) = true then (if g.1 = true then (some true) else (some (a.2 == 6))) else none) else none)) else none) true := by
 have ha := hourE l d hl hd; have hb := turnE l d v hl hd hv; have he := hourS l d hl hd; have hf := turnS l d v hl hd hv; have hg := upE l d hl hd; obtain ⟨t1, t2, t3, t4⟩ := turn_step v hv; by_cases h0 : bup l d 0 = true
 ·by_cases h1 : bup l d 648000 = true
  ·rw [if_pos h0, if_pos h1] at ha hb; rw [h0] at hg; exact Ev.bind ha (Ev.bind hb (Ev.yes rfl (Ev.no (by decide) (Ev.bind hg (Ev.yes rfl (Ev.yes rfl (Ev.yes rfl (Ev.is _))))))))
  ·rw [if_pos h0, if_neg h1] at ha hb he hf; have h1 := Bool.eq_false_iff.2 h1; obtain ⟨s1, s2, _, _⟩ := setm_one l d h0 h1; obtain ⟨s3, s4⟩ := setm_step l d (1296000 / v) hl hd h0 h1 (by omega) t3; have s5 := setm_bounds l d (1296000 / v) (by omega)
   have s6 : setm l d (1296000 / v) * (1296000 / v) ≤ 648000 := by
    have := Int.mul_le_mul_of_nonneg_right s5.2 (show 0 ≤ 1296000 / v by omega); omega
   (have s7 : 0 ≤ setm l d (1296000 / v) * (1296000 / v) := by omega); have hv0 : 4 ≤ v := hv.1
   have ht : wrap64 (Int.tdiv (1296000 : Int) v) = 1296000 / v := by
    rw [Int.tdiv_eq_ediv_of_nonneg (by omega), w64 (by omega) (by omega)]
   refine Ev.bind ha (Ev.bind hb (Ev.yes rfl (Ev.yes rfl (Ev.bind he (Ev.bind hf (Ev.yes rfl (Ev.yes rfl (Ev.no (by omega) (Ev.yes s1 (Ev.yes (by show setm l d 1 ≤ 648000; omega) (Ev.yes s3 ?_))))))))))); simp only []; rw [ht, w64 (n := setm l d (1296000 / v) * (1296000 / v) - setm l d 1) (by omega) (by omega), if_pos s4, if_neg (by omega), tmod_eq _ _ (by omega), if_pos s7, Int.mul_emod_left]; exact Ev.is _
 ·rw [if_neg h0] at ha hb; rw [Bool.eq_false_iff.2 h0] at hg; exact Ev.bind ha (Ev.bind hb (Ev.yes rfl (Ev.no (by decide) (Ev.bind hg (Ev.yes rfl (Ev.yes rfl (Ev.no (by simp) (Ev.is _))))))))
theorem a2Rises_l (P : List Int) (n : Int) (hP : P.length ≤ 1000000) (h0 : ∀ j : Int, 0 ≤ j → j < P.length → 0 ≤ rd P j ∧ rd P j < n) (h1 : ∀ j : Int, 1 ≤ j → j < P.length → rd P (j - 1) < rd P j) : ∀ (d : Nat) (x : Int), (P.length : Int) - x = d → 0 ≤ x → Ev (fun k => laws_a2Rises.l0 k P n x) true := by
 intro d
 induction d with
 | zero =>
  intro x hd hx; refine Ev.now (fun k => ?_); simp only [laws_a2Rises.l0]; rw [if_neg (by omega)]
 | succ d ih =>
  intro x hd hx; refine Ev.step (fun k => ?_) (ih (x + 1) (by omega) (by omega)); have a := h0 x hx (by omega); simp only [laws_a2Rises.l0]; rw [if_pos (by omega), if_pos hx, if_neg (by omega), if_neg (by omega), w64 (n := x + 1) (by omega) (by omega)]; by_cases e : x > 0
  ·have b := h1 x (by omega) (by omega); rw [if_pos e, w64 (n := x - 1) (by omega) (by omega), if_pos (by omega), if_pos (by omega), if_neg (by omega)]
  ·rw [if_neg e]
theorem a2Stand_l (c : List PLc) (m : Int) (h : okCh c = true) (m0 : 0 ≤ m) (m1 : m ≤ 3000) (P : List Int) (hP : P.length ≤ 1000000) (h1 : ∀ j : Int, 1 ≤ j → j < P.length → 0 ≤ rd P (j - 1) ∧ rd P (j - 1) < rd P j ∧ rd P j < c.length ∧ st c m (rd P (j - 1)) (rd P j) = true) : ∀ (d : Nat) (x : Int), (P.length : Int) - x = d → 1 ≤ x → Ev (fun k => laws_a2Stand.l0 k c P m x) true := by
 intro d
 induction d with
 | zero =>
  intro x hd hx; refine Ev.now (fun k => ?_); simp only [laws_a2Stand.l0]; rw [if_neg (by omega)]
 | succ d ih =>
  intro x hd hx; obtain ⟨a1, a2, a3, a4⟩ := h1 x hx (by omega); have hs := StaysWithin_ c m _ _ h m0 m1 a1 a2 a3; rw [a4] at hs; refine Ev.step (h := fun k => (spec_StaysWithin.f k c (rd P (x - 1)) (rd P x) m).bind fun t => if t.2 = 0 then (if t.1 = true then laws_a2Stand.l0 k c P m (x + 1) else some false) else some false) (fun k => ?_) (Ev.bind hs (Ev.eq (fun k => by rw [if_pos rfl, if_pos rfl]) (ih (x + 1) (by omega) (by omega)))); simp only [laws_a2Stand.l0]; rw [if_pos (by omega), w64 (n := x - 1) (by omega) (by omega), if_pos (by omega), if_pos (by omega), if_pos (by omega), w64 (n := x + 1) (by omega) (by omega)]
theorem a2Stand_ (c : List PLc) (m : Int) (h : okCh c = true) (m0 : 0 ≤ m) (m1 : m ≤ 3000) (q : List Int) (hq : Path (st c m) ((c.length : Int) - 1) 0 q) : Ev (fun k => laws_a2Stand.f k c (0 :: q) m) true := by
 obtain ⟨h1, h2, h3⟩ := (okCh_iff c).1 h; have hl := path_le q 0 hq; have hlast := path_last q 0 hq; have hat := path_at q 0 hq; (have hlen : ((0 :: q).length : Int) = (q.length : Int) + 1 := by rw [List.length_cons]; omega)
 have hq1 : 1 ≤ q.length := by
  cases q with
  | nil => simp only [Path] at hq; omega
  | cons a b => simp
 have hr : Ev (fun k => laws_a2Rises.f k (0 :: q) (c.length : Int)) true := a2Rises_l (0 :: q) _ (by omega) (fun j j0 j1 => by
   by_cases e : j = 0
   ·subst e; rw [rd_head]; omega
   ·have := hat j (by omega) (by omega)
    omega) (fun j j0 j1 => (hat j j0 (by omega)).2.1) _ 0 rfl (by omega)
 have hs : Ev (fun k => laws_a2Stand.j0 k c (0 :: q) m false) true := by
  refine Ev.step (fun k => ?_) (a2Stand_l c m h m0 m1 (0 :: q) (by omega) (fun j j0 j1 => ?_) q.length 1 (by omega) (by omega))
  ·simp only [laws_a2Stand.j0]; rw [if_neg (by simp)]
  ·have := hat j j0 (by omega); exact ⟨this.1, this.2.1, by omega, this.2.2.2⟩
 refine Ev.eq (h := fun k => (laws_a2Rises.f k (0 :: q) (c.length : Int)).bind fun t => if t = true then laws_a2Stand.j0 k c (0 :: q) m false else laws_a2Stand.j0 k c (0 :: q) m true) (fun k => ?_) (Ev.bind hr (Ev.eq (fun k => if_pos rfl) hs)); unfold laws_a2Stand.f; rw [if_neg (by omega)]; congr 1; funext t; rw [if_pos (show 0 < ((0 :: q).length : Int) by omega), rd_head, if_pos rfl, w64 (n := ((0 :: q).length : Int) - 1) (by omega) (by omega), if_pos (show 0 ≤ ((0 :: q).length : Int) - 1 by omega), if_pos (show ((0 :: q).length : Int) - 1 < ((0 :: q).length : Int) by omega), w64 (n := (c.length : Int) - 1) (by omega) (by omega), hlen, show (q.length : Int) + 1 - 1 = (q.length : Int) by omega, hlast]; simp
theorem a2Same_l (l : List Int) (hl : l.length ≤ 1000000) : ∀ (d : Nat) (x : Int), (l.length : Int) - x = d → 0 ≤ x → Ev (fun k => laws_a2Same.l0 k l l x) true := by
 intro d
 induction d with
 | zero =>
  intro x hd hx; refine Ev.now (fun k => ?_); simp only [laws_a2Same.l0]; rw [if_neg (by omega)]
 | succ d ih =>
  intro x hd hx; refine Ev.step (fun k => ?_) (ih (x + 1) (by omega) (by omega)); simp only [laws_a2Same.l0]; rw [if_pos (by omega), if_pos hx, if_pos (by omega), if_pos trivial, w64 (n := x + 1) (by omega) (by omega)]
theorem a2Same_ (l : List Int) (hl : l.length ≤ 1000000) : Ev (fun k => laws_a2Same.f k l l) true :=
 Ev.eq (h := fun k => laws_a2Same.l0 k l l 0) (fun k => if_pos rfl) (a2Same_l l hl l.length 0 (by omega) (by omega))
section
variable (c : List PLc) (m : Int) (hc2 : 2 ≤ c.length) (hc : c.length ≤ 24) (hok : c.all okPlace = true)
include hc2 hc hok in
theorem sfew_1 (i : Int) (i0 : 0 ≤ i) (i1 : i < (c.length : Int) - 1) (Q : List Int → Prop) : ∀ (d : Nat) (x : Int) (M X : List Int), (c.length : Int) - x = d → i < x → M.length = c.length → X.length = c.length → Need (st c m) ((c.length : Int) - 1) M X (i + 1) →
  (∀ u, i < u → u < x → st c m i u = true → rd M i ≤ rd M u + 1 ∧ (u < rd X i → rd M i < rd M u + 1)) → (rd M i = (c.length : Int) ∨ (i < rd X i ∧ rd X i < x ∧ st c m i (rd X i) = true ∧ rd M i = rd M (rd X i) + 1)) →
  (∀ M' X' : List Int, M'.length = c.length → X'.length = c.length → Need (st c m) ((c.length : Int) - 1) M' X' i → EvP (fun k => spec_l07Fewest.l0 k c m (c.length : Int) M' X' (i - 1)) Q) → EvP (fun k => spec_l07Fewest.l1 k c m (c.length : Int) M X i x) Q := by
 intro d
 induction d with
 | zero =>
  intro x M X hd hx hM hX hN h1 h2 hn; have hs := (h1 (i + 1) (by omega) (by omega) (st_next c m i i0)).1; have hb := hN (i + 1) (by omega) (by omega); refine EvP.step (fun k => ?_) (hn M X hM hX ?_)
  ·simp only [spec_l07Fewest.l1]; rw [if_neg (by omega), w64 (n := i - 1) (by omega) (by omega)]
  ·intro t t1 t2; by_cases e : t = i
   ·subst e; rcases h2 with h2 | ⟨a, b, e1, e2⟩
    ·omega
    ·have hb2 := hN (rd X t) (by omega) (by omega); exact ⟨by omega, by omega, fun _ => ⟨⟨a, by omega, e1, e2⟩, fun u u1 u2 u3 => h1 u u1 (by omega) u3⟩⟩
   ·exact hN t (by omega) t2
 | succ d ih =>
  intro x M X hd hx hM hX hN h1 h2 hn; have hb := hN x (by omega) (by omega)
  have hMi : rd M i ≤ 25 := by
   rcases h2 with h2 | ⟨a, b, e1, e2⟩
   ·omega
   ·have := hN (rd X i) (by omega) (by omega); omega
  by_cases c1 : rd M x + 1 < rd M i
  ·refine EvP.step (h := fun k => (spec_l07Within.f k c i x m).bind fun t => if t = true then spec_l07Fewest.l1 k c m (c.length : Int) (M.set i.toNat (rd M x + 1)) (X.set i.toNat x) i (x + 1) else spec_l07Fewest.l1 k c m (c.length : Int) M X i (x + 1)) (fun k => ?_) (EvP.bind (P := fun t => t = st c m i x) ⟨_, rfl, SpecWithin_ c m i x hc hok i0 hx (by omega)⟩ (fun t ht => ?_))
   ·simp only [spec_l07Fewest.l1]; rw [if_pos (by omega), if_pos (by omega), if_pos (by omega), if_pos i0, if_pos (by omega), w64 (n := rd M x + 1) (by omega) (by omega), if_pos c1, w64 (n := x + 1) (by omega) (by omega), if_pos (show i < (X.length : Int) by omega)]
   ·subst ht
    cases hs : st c m i x with
    | true =>
     (have hM1 : ∀ u, i < u → rd (M.set i.toNat (rd M x + 1)) u = rd M u := fun u hu => rd_other M i u _ i0 (by omega) (by omega)); have hMi1 : rd (M.set i.toNat (rd M x + 1)) i = rd M x + 1 := rd_same M i _ i0 (by omega); have hXi1 : rd (X.set i.toNat x) i = x := rd_same X i _ i0 (by omega); refine EvP.eq (fun k => if_pos rfl) (ih (x + 1) _ _ (by omega) (by omega) (by simpa using hM) (by simpa using hX) (hN.same (fun t ht => hM1 t (by omega)) (fun t ht => rd_other X i t _ i0 (by omega) (by omega))) (fun u u1 u2 u3 => ?_) ?_ hn)
     ·rw [hMi1, hM1 u u1, hXi1]; by_cases e : u = x
      ·subst e; omega
      ·have := (h1 u u1 (by omega) u3).1; omega
     ·right; rw [hXi1, hMi1, hM1 x hx]; exact ⟨hx, by omega, hs, rfl⟩
    | false =>
     refine EvP.eq (fun k => if_neg (by simp)) (ih (x + 1) M X (by omega) (by omega) hM hX hN (fun u u1 u2 u3 => ?_) (h2.imp_right (fun h => ⟨h.1, by omega, h.2.2⟩)) hn); by_cases e : u = x
     ·subst e; rw [hs] at u3; cases u3
     ·exact h1 u u1 (by omega) u3
  ·refine EvP.step (h := fun k => spec_l07Fewest.l1 k c m (c.length : Int) M X i (x + 1)) (fun k => ?_) (ih (x + 1) M X (by omega) (by omega) hM hX hN (fun u u1 u2 u3 => ?_) (h2.imp_right (fun h => ⟨h.1, by omega, h.2.2⟩)) hn)
   ·simp only [spec_l07Fewest.l1]; rw [if_pos (by omega), if_pos (by omega), if_pos (by omega), if_pos i0, if_pos (by omega), w64 (n := rd M x + 1) (by omega) (by omega), if_neg c1, w64 (n := x + 1) (by omega) (by omega)]
   ·by_cases e : u = x
    ·subst e; rcases h2 with h2 | ⟨a, b, _⟩ <;> omega
    ·exact h1 u u1 (by omega) u3
include hc2 hc hok in
theorem sfew_0 (Q : List Int → Prop) (hn : ∀ M X : List Int, M.length = c.length → X.length = c.length → Need (st c m) ((c.length : Int) - 1) M X 0 → EvP (fun k => spec_l07Fewest.l2 k (c.length : Int) X [0] 0) Q) : ∀ (d : Nat) (i : Int) (M X : List Int), i + 1 = d → i < (c.length : Int) - 1 → M.length = c.length → X.length = c.length → Need (st c m) ((c.length : Int) - 1) M X (i + 1) → EvP (fun k => spec_l07Fewest.l0 k c m (c.length : Int) M X i) Q := by
 intro d
 induction d with
 | zero =>
  intro i M X hd hi hM hX hN; refine EvP.step (fun k => ?_) (hn M X hM hX (by rw [show (0 : Int) = i + 1 by omega]; exact hN)); simp only [spec_l07Fewest.l0]; rw [if_neg (by omega)]
 | succ d ih =>
  intro i M X hd hi hM hX hN; refine EvP.step (h := fun k => spec_l07Fewest.l1 k c m (c.length : Int) (M.set i.toNat (c.length : Int)) X i (i + 1)) (fun k => ?_) (sfew_1 c m hc2 hc hok i (by omega) hi Q ((c.length : Int) - (i + 1)).toNat (i + 1) _ X (by omega) (by omega) (by simpa using hM) hX (hN.same (fun t ht => rd_other M i t _ (by omega) (by omega) (by omega)) (fun _ _ => rfl)) (fun u u1 u2 _ => by omega) (.inl (rd_same M i _ (by omega) (by omega))) (fun M' X' h1 h2 h3 => ih (i - 1) M' X' (by omega) (by omega) h1 h2 (by rw [show i - 1 + 1 = i by omega]; exact h3))); simp only [spec_l07Fewest.l0]; rw [if_pos (by omega), if_pos (by omega), if_pos (by omega), w64 (n := i + 1) (by omega) (by omega)]
include hc in
theorem sfew_2 (M X : List Int) (hX : X.length = c.length) (hN : Need (st c m) ((c.length : Int) - 1) M X 0) : ∀ (d : Nat) (i : Int) (p : List Int), (c.length : Int) - 1 - i ≤ d → 0 ≤ i → i ≤ (c.length : Int) - 1 → (p.length : Int) ≤ i + 1 → EvP (fun k => spec_l07Fewest.l2 k (c.length : Int) X p i) (fun r => ∃ q, r = p ++ q ∧ Path (st c m) ((c.length : Int) - 1) i q ∧ (q.length : Int) = rd M i ∧ Fol X ((c.length : Int) - 1) i q) := by
 intro d
 induction d with
 | zero =>
  intro i p hd h0 h1 hp; (obtain rfl : i = (c.length : Int) - 1 := by omega); have := hN _ h0 h1; refine ⟨p, ⟨[], by simp, rfl, by simp; omega, rfl⟩, Ev.now (fun k => ?_)⟩; simp only [spec_l07Fewest.l2]; rw [w64 (n := (c.length : Int) - 1) (by omega) (by omega), if_neg (by omega)]
 | succ d ih =>
  intro i p hd h0 h1 hp; by_cases e : i = (c.length : Int) - 1
  ·subst e; have := hN _ h0 h1; refine ⟨p, ⟨[], by simp, rfl, by simp; omega, rfl⟩, Ev.now (fun k => ?_)⟩; simp only [spec_l07Fewest.l2]; rw [w64 (n := (c.length : Int) - 1) (by omega) (by omega), if_neg (by omega)]
  ·obtain ⟨⟨a1, a2, a3, a4⟩, _⟩ := (hN i h0 h1).2.2 (by omega); obtain ⟨r, ⟨q, rfl, q2, q3, q4⟩, hr⟩ := ih (rd X i) (p ++ [rd X i]) (by omega) (by omega) a2 (by simp; omega); refine ⟨_, ⟨rd X i :: q, by simp, ⟨a1, a2, a3, q2⟩, by rw [List.length_cons]; omega, by omega, rfl, q4⟩, Ev.step (fun k => ?_) hr⟩; simp only [spec_l07Fewest.l2]; rw [w64 (n := (c.length : Int) - 1) (by omega) (by omega), if_pos (by omega), if_pos h0, if_pos (by omega), if_pos (by omega)]
end
theorem SpecFewestPts_ (c : List PLc) (m : Int) (h : okCh c = true) : EvP (fun k => spec_l07Fewest.f k c m) (fun r => ∃ q, r = 0 :: q ∧ Path (st c m) ((c.length : Int) - 1) 0 q ∧ (∀ q', Path (st c m) ((c.length : Int) - 1) 0 q' → q.length ≤ q'.length) ∧ ∃ M X, Need (st c m) ((c.length : Int) - 1) M X 0 ∧ Fol X ((c.length : Int) - 1) 0 q) := by
 obtain ⟨h1, h2, h3⟩ := (okCh_iff c).1 h; refine EvP.eq (h := fun k => spec_l07Fewest.l0 k c m (c.length : Int) (List.replicate c.length 0) (List.replicate c.length 0) ((c.length : Int) - 2)) (fun k => ?_) ?_
 ·unfold spec_l07Fewest.f; rw [if_pos (by omega), if_pos (by omega), w64 (n := (c.length : Int) - 2) (by omega) (by omega), Int.toNat_natCast]
 ·refine sfew_0 c m h1 h2 h3 _ (fun M X hM hX hN => ?_) ((c.length : Int) - 1).toNat _ _ _ (by omega) (by omega) (by simp) (by simp) ?_
  ·obtain ⟨r, ⟨q, q1, q2, q3, q4⟩, hr⟩ := sfew_2 c m h2 M X hX hN c.length 0 [0] (by omega) (by omega) (by omega) (by simp); refine ⟨r, ⟨q, by simpa using q1, q2, fun q' hq' => ?_, M, X, hN, q4⟩, hr⟩; have := need_least hN q' 0 (by omega) hq'; omega
  ·intro t t1 t2
   have : rd (List.replicate c.length 0) t = 0 := by
    unfold rd; simp [List.getD_eq_getElem?_getD, List.getElem?_replicate]; split <;> rfl
   rw [this]; exact ⟨by omega, by omega, fun h => by omega⟩
theorem SpecOkB_1 (n : Int) (L : List BDr) (hL : L.length ≤ 1000000) (x : Int) (x0 : 0 ≤ x) (x1 : x < L.length) (r : Bool) (hr : Ev (fun k => spec_l09Ok.l0 k n L (x + 1)) r) : ∀ (d : Nat) (y : Int), x - y = d → 0 ≤ y → Ev (fun k => spec_l09Ok.l1 k n L x y) (if ((L.take x.toNat).drop y.toNat).any (eqB (rd_T82 L x)) = true then false else r) := by
 intro d
 induction d with
 | zero =>
  intro y hd hy; rw [List.drop_eq_nil_of_le (by rw [List.length_take]; omega)]; refine Ev.step (fun k => ?_) hr; simp only [spec_l09Ok.l1]; rw [if_neg (by omega), w64 (n := x + 1) (by omega) (by omega)]
 | succ d ih =>
  intro y hd hy; rw [bd_drop (L.take x.toNat) y hy (by rw [List.length_take]; omega), List.any_cons, bd_take L x y hy (by omega) (by omega)]
  have e : ∀ k, spec_l09Ok.l1 (k + 1) n L x y = if eqB (rd_T82 L x) (rd_T82 L y) = true then some false else spec_l09Ok.l1 k n L x (y + 1) := by
   intro k; simp only [spec_l09Ok.l1]; rw [if_pos (by omega), if_pos hy, if_pos (by omega), if_pos x0, if_pos x1, w64 (n := y + 1) (by omega) (by omega)]; unfold eqB; rw [Bool.beq_comm (a := (rd_T82 L y).f0), Bool.beq_comm (a := (rd_T82 L y).f1)]
  cases hq : eqB (rd_T82 L x) (rd_T82 L y) with
  | true => exact Ev.now (fun k => by rw [e, if_pos hq]; rfl)
  | false =>
   rw [Bool.false_or]; exact Ev.step (fun k => by rw [e, hq, if_neg (by simp)]) (ih (y + 1) (by omega) (by omega))
theorem SpecOkB_0 (n : Int) (hn : 1 ≤ n ∧ n ≤ 10) (L : List BDr) (hL : L.length ≤ 1000000) : ∀ (d : Nat) (x : Int), (L.length : Int) - x = d → 0 ≤ x → Ev (fun k => spec_l09Ok.l0 k n L x) (okFrom n L d x && decide ((L.length : Int) ≤ 30)) := by
 intro d
 induction d with
 | zero =>
  intro x hd hx; refine Ev.now (fun k => ?_); simp only [spec_l09Ok.l0]; rw [if_neg (by omega)]; rfl
 | succ d ih =>
  intro x hd hx
  have e : ∀ k, spec_l09Ok.l0 (k + 1) n L x = if (0 ≤ (rd_T82 L x).f0 ∧ (rd_T82 L x).f0 < (rd_T82 L x).f1 ∧ (rd_T82 L x).f1 < n) then spec_l09Ok.j1 k n L x false else spec_l09Ok.j1 k n L x true := by
   intro k; simp only [spec_l09Ok.l0]; rw [if_pos (by omega), if_pos hx, In_, w64 (n := n - 1) (by omega) (by omega)]; simp only [Option.bind_some, decide_eq_true_eq]; by_cases c1 : 0 ≤ (rd_T82 L x).f1 ∧ (rd_T82 L x).f1 ≤ n - 1
   ·rw [if_pos c1, In_, w64 (n := (rd_T82 L x).f1 - 1) (by omega) (by omega)]; simp only [Option.bind_some]; by_cases c2 : 0 ≤ (rd_T82 L x).f0 ∧ (rd_T82 L x).f0 ≤ (rd_T82 L x).f1 - 1
    ·rw [if_pos (by omega), decide_eq_true c2]; rfl
    ·rw [if_neg (by omega), decide_eq_false c2]; rfl
   ·rw [if_neg c1, if_neg (by omega)]
  by_cases h : (0 ≤ (rd_T82 L x).f0 ∧ (rd_T82 L x).f0 < (rd_T82 L x).f1 ∧ (rd_T82 L x).f1 < n)
  ·refine Ev.step (fun k => by rw [e, if_pos h]) (Ev.step (h := fun k => spec_l09Ok.l1 k n L x 0) (fun k => ?_) ?_)
   ·simp only [spec_l09Ok.j1]; rw [if_neg (by simp)]
   ·have := SpecOkB_1 n L hL x hx (by omega) _ (ih (x + 1) (by omega) (by omega)) x.toNat 0 (by omega) (by omega); rw [show (L.take x.toNat).drop (0 : Int).toNat = L.take x.toNat from rfl] at this; simp only [okFrom, badB, decide_eq_true h, Bool.not_true, Bool.false_or]
    cases hq : (L.take x.toNat).any (eqB (rd_T82 L x)) with
    | true => rw [hq, if_pos rfl] at this; exact this
    | false => rw [hq, if_neg (by simp)] at this; exact this
  ·(have : badB n L x = true := by unfold badB; rw [decide_eq_false h]; rfl); simp only [okFrom, this]; refine Ev.step (fun k => by rw [e, if_neg h]) (Ev.now (fun k => ?_)); simp only [spec_l09Ok.j1]; rfl
theorem SpecOkB_ (n : Int) (L : List BDr) (hL : L.length ≤ 1000000) : Ev (fun k => spec_l09Ok.f k n L) (vB n L) := by
 by_cases hn : 1 ≤ n ∧ n ≤ 10
 ·have := SpecOkB_0 n hn L hL L.length 0 (by omega) (by omega); refine Ev.eq (h := fun k => spec_l09Ok.l0 k n L 0) (fun k => ?_) (by unfold vB; rw [decide_eq_true hn, Bool.true_and]; exact this); unfold spec_l09Ok.f; rw [In_, decide_eq_true hn]; rfl
 ·(have : vB n L = false := by unfold vB; rw [decide_eq_false hn]; simp); rw [this]; refine ⟨0, fun k _ => ?_⟩; show spec_l09Ok.f k n L = some false; unfold spec_l09Ok.f; rw [In_, decide_eq_false hn]; rfl
theorem frl_ {n : Int} {L : List BDr} (h : okBd n L) (cs : List Int) (c : Int) : ∀ (d : Nat) (x : Int), (L.length : Int) - x = d → 0 ≤ x → Ev (fun k => fr_loop k L cs c x) ((L.drop x.toNat).all fun z => !(z.f1 == (cs.length : Int) && rd cs z.f0 == c)) := by
 have hl := h.2.2.1; intro d
 induction d with
 | zero =>
  intro x hd hx; rw [List.drop_eq_nil_of_le (by omega)]; refine Ev.now (fun k => ?_); simp only [fr_loop]; rw [if_neg (by omega)]; rfl
 | succ d ih =>
  intro x hd hx; rw [bd_drop L x hx (by omega), List.all_cons]; have hb := h.2.2.2 _ (bd_in L x hx (by omega)); have hi := ih (x + 1) (by omega) (by omega); generalize hz : rd_T82 L x = z at hb ⊢
  have e : ∀ k, fr_loop (k + 1) L cs c x = if (z.f1 == (cs.length : Int) && rd cs z.f0 == c) = true then some false else fr_loop k L cs c (x + 1) := by
   intro k; simp only [fr_loop]; rw [if_pos (by omega), if_pos hx, hz, w64 (n := x + 1) (by omega) (by omega)]; by_cases c1 : z.f1 = (cs.length : Int)
   ·rw [if_pos c1, if_pos hb.1, if_pos (by omega)]; by_cases c2 : rd cs z.f0 = c
    ·rw [if_pos c2, if_pos (by simp [c1, c2])]
    ·rw [if_neg c2, if_neg (by simp [c2])]
   ·rw [if_neg c1, if_neg (by simp [c1])]
  cases hq : (z.f1 == (cs.length : Int) && rd cs z.f0 == c) with
  | true => exact Ev.now (fun k => by rw [e, hq, if_pos rfl]; rfl)
  | false =>
   rw [Bool.not_false, Bool.true_and]; exact Ev.step (fun k => by rw [e, hq, if_neg (by simp)]) hi
theorem fr_ {n : Int} {L : List BDr} (h : okBd n L) (cs : List Int) (c : Int) : Ev (fun k => fr_loop k L cs c 0) (freeC L cs c) := by
 have e : (L.all fun z => !(z.f1 == (cs.length : Int) && rd cs z.f0 == c)) = freeC L cs c := by
  rw [Bool.eq_iff_iff, free_iff h, List.all_eq_true]; constructor
  ·intro hh x hx h1 h2; have := hh x hx; simp [h1, h2] at this
  ·intro hh x hx; by_cases h1 : x.f1 = (cs.length : Int)
   ·have := hh x hx h1; simp [this]
   ·simp [h1]
 rw [← e]; exact frl_ h cs c L.length 0 (by omega) (by omega)
def fcR : Option (List Int) → List Int × Bool
 | some r => (r, true)
 | none => ([], false)
theorem Own_ (l : List Int) (hl : l.length ≤ 1000000) : spec_l00Own.f l = some l := by
 unfold spec_l00Own.f; simp only [Option.bind_some, List.length_nil, List.nil_append]; rw [if_pos (by omega)]
theorem lfl_ {n : Int} {L : List BDr} (h : okBd n L) (m : Int) (m1 : m ≤ 1000000) (d : Nat) (cs : List Int) (hcs : cs.length ≤ 100) (ih : ∀ c, Ev (fun k => lf_walk k n L m (cs ++ [c])) (fcR (fcP L m d (cs ++ [c])))) : ∀ (e : Nat) (x : Int), (m - x).toNat = e → 0 ≤ x → Ev (fun k => lf_loop k n L m cs x) (fcR (firstC (fun c => if freeC L cs c = true then fcP L m d (cs ++ [c]) else none) e x)) := by
 intro e
 induction e with
 | zero =>
  intro x hd hx; refine Ev.now (fun k => ?_); simp only [lf_loop]; rw [if_neg (by omega)]; rfl
 | succ e ihe =>
  intro x hd hx; have hi := ihe (x + 1) (by omega) (by omega); refine Ev.step (h := fun k => (fr_loop k L cs x 0).bind fun ok => if ok = true then ((lf_walk k n L m (cs ++ [x])).bind fun r => if r.2 = true then some r else lf_loop k n L m cs (x + 1)) else lf_loop k n L m cs (x + 1)) (fun k => ?_) (Ev.bind (fr_ h cs x) ?_)
  ·simp only [lf_loop]; rw [if_pos (by omega), if_pos (show cs.length < 1000 by omega), w64 (n := x + 1) (by omega) (by omega)]
  ·unfold firstC
   cases hf : freeC L cs x with
   | false =>
    simp only [Bool.false_eq_true, if_false]; exact hi
   | true =>
    simp only [if_true]; refine Ev.bind (ih x) ?_
    cases hp : fcP L m d (cs ++ [x]) with
    | none => exact hi
    | some r => exact Ev.is _
theorem lfw_ {n : Int} {L : List BDr} (h : okBd n L) (m : Int) (m1 : m ≤ 1000000) : ∀ (d : Nat) (cs : List Int), n - (cs.length : Int) = d → Ev (fun k => lf_walk k n L m cs) (fcR (fcP L m d cs))
 | 0, cs, hd => Ev.now (fun k => by
   have := h.2.1; simp only [lf_walk]
   rw [if_pos (by omega), Own_ _ (by omega)]; rfl)
 | d + 1, cs, hd => by
  have h2 := h.2.1; refine Ev.step (fun k => ?_) (lfl_ h m m1 d cs (by omega) (fun c => lfw_ h m m1 d (cs ++ [c]) (by rw [List.length_append, List.length_singleton]; omega)) m.toNat 0 (by rw [Int.sub_zero]) (by omega)); simp only [lf_walk]; rw [if_neg (by omega)]
theorem SpecFirst_ {n : Int} {L : List BDr} (h : okBd n L) (m : Int) (m1 : m ≤ 1000000) : Ev (fun k => spec_l09First.f k n L m) (fcR (fcP L m n.toNat [])) := lfw_ h m m1 n.toNat [] (by have := h.1; simp; omega)
theorem SpecFewestC_l {n : Int} {L : List BDr} (h : okBd n L) (y : Int) (y1 : 1 ≤ y) (y2 : y ≤ n) (hy : fcP L y n.toNat [] ≠ none) (hmin : ∀ z, 1 ≤ z → z < y → fcP L z n.toNat [] = none) : ∀ (d : Nat) (x : Int), y - x = d → 1 ≤ x → Ev (fun k => spec_l09Fewest.l0 k n L x) y := by
 have hn := h.2.1; intro d
 induction d with
 | zero =>
  intro x hd hx; (obtain rfl : x = y := by omega); by_cases c : x < n
  ·have hs := SpecFirst_ h x (by omega)
   cases hq : fcP L x n.toNat [] with
   | none => exact absurd hq hy
   | some r =>
    rw [hq] at hs; refine Ev.step (h := fun k => (spec_l09First.f k n L x).bind fun t => if t.2 = true then some x else spec_l09Fewest.l0 k n L (x + 1)) (fun k => ?_) (Ev.bind hs (Ev.is _)); simp only [spec_l09Fewest.l0]; rw [if_pos c, w64 (n := x + 1) (by omega) (by omega)]
  ·(obtain rfl : x = n := by omega); refine Ev.now (fun k => ?_); simp only [spec_l09Fewest.l0]; rw [if_neg c]
 | succ d ih =>
  intro x hd hx; have hs := SpecFirst_ h x (by omega); rw [hmin x hx (by omega)] at hs; refine Ev.step (h := fun k => (spec_l09First.f k n L x).bind fun t => if t.2 = true then some x else spec_l09Fewest.l0 k n L (x + 1)) (fun k => ?_) (Ev.bind hs (ih (x + 1) (by omega) (by omega))); simp only [spec_l09Fewest.l0]; rw [if_pos (by omega), w64 (n := x + 1) (by omega) (by omega)]
theorem SpecFewestC_ (n : Int) (L : List BDr) (hL : L.length ≤ 1000000) (h : vB n L = true) (y : Int) (y1 : 1 ≤ y) (y2 : y ≤ n) (hy : fcP L y n.toNat [] ≠ none) (hmin : ∀ z, 1 ≤ z → z < y → fcP L z n.toNat [] = none) : Ev (fun k => spec_FewestColours.f k n L) (y, 0) :=
 Ev.eq (h := fun k => (spec_l09Ok.f k n L).bind fun t => if t = true then (spec_l09Fewest.l0 k n L 1).bind fun t => some (t, 0) else some (0, 1)) (fun k => rfl) (Ev.bind (SpecOkB_ n L hL) (Ev.yes h (Ev.bind (SpecFewestC_l (vB_says h) y y1 y2 hy hmin (y - 1).toNat 1 (by omega) (by omega)) (Ev.is _))))
theorem SpecFirstC_ (n : Int) (L : List BDr) (h : vB n L = true) (m : Int) (m0 : 1 ≤ m) (m1 : m ≤ 6) (r : List Int) (hr : fcP L m n.toNat [] = some r) : Ev (fun k => spec_FirstColours.f k n L m) (r, 0) := by
 have hb := vB_says h; have hs := SpecFirst_ hb m (by omega); rw [hr] at hs
 have hcode : Ev (fun k => spec_l09Code.f k n L m) 0 := by
  refine Ev.eq (h := fun k => (spec_l09Ok.f k n L).bind fun t => if t = true then some 0 else some 1) (fun k => ?_) (Ev.bind (SpecOkB_ n L (by have := hb.2.2.1; omega)) (by rw [h]; exact Ev.is _)); unfold spec_l09Code.f; rw [In_, decide_eq_true (show 1 ≤ m ∧ m ≤ 6 from ⟨m0, m1⟩)]; rfl
 exact Ev.eq (h := fun k => (spec_l09Code.f k n L m).bind fun t => if t = 0 then ((spec_l09First.f k n L m).bind fun b => if b.2 = true then some (b.1, 0) else some ([], 3)) else some ([], t)) (fun k => rfl) (Ev.bind hcode (Ev.yes rfl (Ev.bind hs (Ev.is _))))
theorem SpecClash_l {n : Int} {L : List BDr} (h : okBd n L) (r : List Int) (hl : (r.length : Int) = n) (hg : Good L r) : ∀ (d : Nat) (x : Int), (L.length : Int) - x = d → 0 ≤ x → Ev (fun k => spec_l09Clash.l0 k L r x) (-1) := by
 have hL := h.2.2.1; intro d
 induction d with
 | zero =>
  intro x hd hx; refine Ev.now (fun k => ?_); simp only [spec_l09Clash.l0]; rw [if_neg (by omega)]
 | succ d ih =>
  intro x hd hx; have hin := bd_in L x hx (by omega); have hb := h.2.2.2 _ hin; have hne := hg _ hin (by omega); refine Ev.step (fun k => ?_) (ih (x + 1) (by omega) (by omega)); simp only [spec_l09Clash.l0]; rw [if_pos (by omega), if_pos hx, if_pos (by omega), if_pos (by omega), if_pos (by omega), if_pos (by omega), if_neg hne, w64 (n := x + 1) (by omega) (by omega)]
theorem SpecCols_l (n : Int) (r : List Int) (hl : (r.length : Int) = n) (hn : n ≤ 1000) (hr : ∀ y ∈ r, 0 ≤ y ∧ y < 10) : ∀ (d : Nat) (x : Int), (r.length : Int) - x = d → 0 ≤ x → Ev (fun k => spec_l09Colours.l0 k n r x) true := by
 intro d
 induction d with
 | zero =>
  intro x hd hx; refine Ev.now (fun k => ?_); simp only [spec_l09Colours.l0]; rw [if_neg (by omega), hl]; simp
 | succ d ih =>
  intro x hd hx; have := hr _ (rd_in r x hx (by omega)); refine Ev.step (fun k => ?_) (ih (x + 1) (by omega) (by omega)); simp only [spec_l09Colours.l0]; rw [if_pos (by omega), if_pos hx, In_, decide_eq_true (show 0 ≤ rd r x ∧ rd r x ≤ 9 by omega), w64 (n := x + 1) (by omega) (by omega)]; rfl
theorem SpecClash_ (n : Int) (L : List BDr) (h : vB n L = true) (r : List Int) (hl : (r.length : Int) = n) (hr : ∀ y ∈ r, 0 ≤ y ∧ y < 10) (hg : Good L r) : Ev (fun k => spec_FirstClash.f k n L r) (-1, 0) := by
 have hb := vB_says h; have hb2 := hb.2.1; exact Ev.eq (h := fun k => (spec_l09Ok.f k n L).bind fun t => if t = true then ((spec_l09Colours.l0 k n r 0).bind fun t => if t = true then ((spec_l09Clash.l0 k L r 0).bind fun t => some (t, 0)) else some (0, 2)) else some (0, 1)) (fun k => rfl) (Ev.bind (SpecOkB_ n L (by have := hb.2.2.1; omega)) (Ev.yes h (Ev.bind (SpecCols_l n r hl (by omega) hr r.length 0 (by omega) (by omega)) (Ev.yes rfl (Ev.bind (SpecClash_l hb r hl hg L.length 0 (by omega) (by omega)) (Ev.is _))))))
theorem and1_ (n : Int) : Go.bits .and .i64 n 1 = n % 2 := by
 have h1 : (BitVec.ofInt 64 1).toNat = 2 ^ 1 - 1 := by decide
 have key : (BitVec.ofInt 64 n &&& BitVec.ofInt 64 1).toNat = (n % ((2 ^ 64 : Nat) : Int)).toNat % 2 ^ 1 := by
  rw [BitVec.toNat_and, BitVec.toNat_ofInt, h1, Nat.and_two_pow_sub_one_eq_mod]
 show IntKind.i64.wrap ((BitVec.ofInt 64 n &&& BitVec.ofInt 64 1).toNat : Nat) = n % 2; rw [key, IntKind.wrap_i64]; omega
theorem u64s (j : Int) (h0 : 0 ≤ j) (h1 : j < 64) : IntKind.u64.wrap j = j := by
 simp [IntKind.wrap, IntKind.bits, IntKind.signed]; omega
theorem bit_ (D j : Nat) (h : j < 64) : Go.bits .and .i64 (shr .i64 (D : Int) (j : Int)) 1 = if D.testBit j = true then 1 else 0 := by
 rw [and1_]; unfold shr; rw [Int.toNat_natCast, show min j IntKind.i64.bits = j from Nat.min_eq_left (by show j ≤ 64; omega)]
 have e : ((D : Int) / 2 ^ j) % 2 = ((D / 2 ^ j % 2 : Nat) : Int) := by
  rw [Int.natCast_emod, Int.natCast_ediv, Int.natCast_pow]; rfl
 rw [e, Nat.testBit_eq_decide_div_mod_eq]; by_cases c : D / 2 ^ j % 2 = 1
 ·rw [c, if_pos (by simp)]; rfl
 ·rw [if_neg (by simpa using c), show D / 2 ^ j % 2 = 0 by omega]; rfl
theorem shl1_ (j : Nat) (h : j ≤ 61) : shl .i64 1 (j : Int) = ((2 ^ j : Nat) : Int) := by
 unfold shl; rw [Int.toNat_natCast, show min j IntKind.i64.bits = j from Nat.min_eq_left (by show j ≤ 64; omega), IntKind.wrap_i64]; have h1 : 2 ^ j ≤ 2 ^ 61 := Nat.pow_le_pow_right (by omega) h; have h0 : 0 < 2 ^ j := Nat.two_pow_pos j; (have e : (1 * 2 ^ j : Int) = ((2 ^ j : Nat) : Int) := by rw [Int.one_mul, Int.natCast_pow]; rfl); rw [e]; omega
theorem and_nat (a b : Nat) (ha : a < 2 ^ 62) (hb : b < 2 ^ 62) : Go.bits .and .i64 (a : Int) (b : Int) = ((a &&& b : Nat) : Int) := by
 have h : a &&& b < 2 ^ 62 := Nat.and_lt_two_pow a hb
 have key : (BitVec.ofInt 64 (a : Int) &&& BitVec.ofInt 64 (b : Int)).toNat = a &&& b := by
  rw [BitVec.toNat_and, BitVec.toNat_ofInt, BitVec.toNat_ofInt]; (have e1 : ((a : Int) % ((2 ^ 64 : Nat) : Int)).toNat = a := by omega); (have e2 : ((b : Int) % ((2 ^ 64 : Nat) : Int)).toNat = b := by omega); rw [e1, e2]
 show IntKind.i64.wrap ((BitVec.ofInt 64 (a : Int) &&& BitVec.ofInt 64 (b : Int)).toNat : Nat) = _; rw [key, IntKind.wrap_i64]; omega
theorem rest_bit : ∀ (a p s : Nat), (∀ b, p.testBit b = true → s.testBit b = true) → p ≤ s ∧ (s - p).testBit a = (s.testBit a && !p.testBit a) := by
 intro a
 induction a with
 | zero =>
  intro p s h; have hle : p ≤ s := Nat.le_of_testBit h; refine ⟨hle, ?_⟩; have h0 := h 0; simp only [Nat.testBit_zero, decide_eq_true_eq] at h0; simp only [Nat.testBit_zero]; by_cases c1 : p % 2 = 1
  ·have := h0 c1; rw [decide_eq_true c1, decide_eq_false (show ¬ (s - p) % 2 = 1 by omega)]; simp
  ·rw [decide_eq_false c1]; by_cases c2 : s % 2 = 1
   ·rw [decide_eq_true c2, decide_eq_true (show (s - p) % 2 = 1 by omega)]; rfl
   ·rw [decide_eq_false c2, decide_eq_false (show ¬ (s - p) % 2 = 1 by omega)]; rfl
 | succ a ih =>
  intro p s h; have hle : p ≤ s := Nat.le_of_testBit h; have h0 := h 0; simp only [Nat.testBit_zero, decide_eq_true_eq] at h0
  have hh : ∀ b, (p / 2).testBit b = true → (s / 2).testBit b = true := fun b hb => by
   rw [← Nat.testBit_succ] at hb ⊢; exact h _ hb
  have := (ih (p / 2) (s / 2) hh).2; refine ⟨hle, ?_⟩; rw [Nat.testBit_succ, Nat.testBit_succ, Nat.testBit_succ, ← this, show (s - p) / 2 = s / 2 - p / 2 by omega]
def Colb (L : List BDr) (c : Int) (S : Nat) : Prop := ∃ f : Int → Int, (∀ a : Nat, S.testBit a = true → 0 ≤ f (a : Int) ∧ f (a : Int) < c) ∧ ∀ x ∈ L, S.testBit x.f0.toNat = true → S.testBit x.f1.toNat = true → f x.f0 ≠ f x.f1
def apB (L : List BDr) (S : Nat) : Bool := L.all fun x => !(S.testBit x.f0.toNat && S.testBit x.f1.toNat)
theorem colb_more {n : Int} {L : List BDr} (h : okBd n L) (c : Int) (c0 : 0 ≤ c) (s p : Nat) (hp : ∀ b, p.testBit b = true → s.testBit b = true) (ha : apB L p = true) (hc : Colb L c (s - p)) : Colb L (c + 1) s := by
 obtain ⟨f, f1, f2⟩ := hc; refine ⟨fun a => if p.testBit a.toNat = true then c else f a, fun a hs => ?_, fun x hx h0 h1 => ?_⟩
 ·simp only [Int.toNat_natCast]; by_cases hb : p.testBit a = true
  ·simp only [if_pos hb]; omega
  ·have := f1 a (by rw [(rest_bit a p s hp).2, hs, Bool.eq_false_iff.2 hb]; rfl); simp only [if_neg hb]; omega
 ·have hb := h.2.2.2 x hx; have hap := List.all_eq_true.1 ha x hx; have e0 := f1 x.f0.toNat; have e1 := f1 x.f1.toNat; rw [(rest_bit _ p s hp).2, h0, Bool.true_and, show ((x.f0.toNat : Nat) : Int) = x.f0 by omega] at e0; rw [(rest_bit _ p s hp).2, h1, Bool.true_and, show ((x.f1.toNat : Nat) : Int) = x.f1 by omega] at e1; have e2 := f2 x hx; rw [(rest_bit _ p s hp).2, (rest_bit _ p s hp).2, h0, h1, Bool.true_and, Bool.true_and] at e2; simp only []
  cases hb0 : p.testBit x.f0.toNat with
  | true =>
   rw [if_pos rfl]
   cases hb1 : p.testBit x.f1.toNat with
   | true => rw [hb0, hb1] at hap; cases hap
   | false =>
    rw [if_neg (by simp)]; have := e1 (by rw [hb1]; rfl); omega
  | false =>
   rw [if_neg (by simp)]
   cases hb1 : p.testBit x.f1.toNat with
   | true =>
    rw [if_pos rfl]; have := e0 (by rw [hb0]; rfl); omega
   | false =>
    rw [if_neg (by simp)]; exact e2 (by rw [hb0]; rfl) (by rw [hb1]; rfl)
theorem apart_l {n : Int} {L : List BDr} (h : okBd n L) (S : Nat) : ∀ (d : Nat) (x : Int), (L.length : Int) - x = d → 0 ≤ x → Ev (fun k => spec_l09Apart.l0 k L (S : Int) x) ((L.drop x.toNat).all fun x => !(S.testBit x.f0.toNat && S.testBit x.f1.toNat)) := by
 have hn := h.2.1; have hl := h.2.2.1; intro d
 induction d with
 | zero =>
  intro x hd hx; rw [List.drop_eq_nil_of_le (by omega)]; refine Ev.now (fun k => ?_); simp only [spec_l09Apart.l0]; rw [if_neg (by omega)]; rfl
 | succ d ih =>
  intro x hd hx; rw [bd_drop L x hx (by omega), List.all_cons]; have hb := h.2.2.2 _ (bd_in L x hx (by omega)); have hi := ih (x + 1) (by omega) (by omega); generalize hz : rd_T82 L x = z at hb ⊢
  have e : ∀ k, spec_l09Apart.l0 (k + 1) L (S : Int) x = if (S.testBit z.f0.toNat && S.testBit z.f1.toNat) = true then some false else spec_l09Apart.l0 k L (S : Int) (x + 1) := by
   intro k; have b0 := bit_ S z.f0.toNat (by omega); have b1 := bit_ S z.f1.toNat (by omega); rw [show ((z.f0.toNat : Nat) : Int) = z.f0 by omega] at b0; rw [show ((z.f1.toNat : Nat) : Int) = z.f1 by omega] at b1; simp only [spec_l09Apart.l0]; rw [if_pos (by omega), if_pos hx, hz, u64s z.f0 (by omega) (by omega), u64s z.f1 (by omega) (by omega), if_pos (show 0 ≤ z.f0 by omega), if_pos (show 0 ≤ z.f1 by omega), b0, b1, w64 (n := x + 1) (by omega) (by omega)]
   cases S.testBit z.f0.toNat <;> cases S.testBit z.f1.toNat <;> simp
  cases hq : (S.testBit z.f0.toNat && S.testBit z.f1.toNat) with
  | true => exact Ev.now (fun k => by rw [e, hq, if_pos rfl]; rfl)
  | false =>
   rw [Bool.not_false, Bool.true_and]; exact Ev.step (fun k => by rw [e, hq, if_neg (by simp)]) hi
theorem Apart_ {n : Int} {L : List BDr} (h : okBd n L) (S : Nat) : Ev (fun k => spec_l09Apart.f k L (S : Int)) (apB L S) := apart_l h S L.length 0 (by omega) (by omega)
theorem rdB_tab (g : Nat → Bool) (n p : Nat) (h : p < n) : rdOf false ((List.range n).map g) (p : Int) = g p := by
 unfold rdOf; rw [Int.toNat_natCast, List.getD_eq_getElem?_getD, List.getElem?_map, List.getElem?_range h]; rfl
section
variable {n : Int} {L : List BDr} (h : okBd n L) (m : Int) (m1 : m ≤ 1000) (N : Nat) (hN : N ≤ 1024)
def Tabl (L : List BDr) (N : Nat) (c : Int) (W : List Int) : Prop := W.length = N ∧ ∀ S : Nat, S < N → rd W (S : Int) ≠ 0 → Colb L c S
include h hN in
theorem count_3 (c : Int) (c0 : 0 ≤ c) (W : List Int) (hW : Tabl L N c W) (s : Nat) (hs : s < N) (Q : Int → Prop) (hn : ∀ X, Tabl L N (c + 1) X → EvP (fun k => spec_l09Count.l2 k m (N : Int) ((List.range N).map (apB L)) W c X ((s : Int) + 1)) Q) : ∀ (p : Nat) (X : List Int), (∀ b, p.testBit b = true → s.testBit b = true) → Tabl L N (c + 1) X → EvP (fun k => spec_l09Count.l3 k m (N : Int) ((List.range N).map (apB L)) W c X (s : Int) (p : Int)) Q := by
 intro p
 induction p using Nat.strongRecOn with
 | ind p ih =>
  intro X hp hX; have hle := (rest_bit 0 p s hp).1; have hX1 := hX.1; have hW1 := hW.1
  have go : ∀ X, Tabl L N (c + 1) X → EvP (fun k => if (p : Int) = 0 then spec_l09Count.l2 k m (N : Int) ((List.range N).map (apB L)) W c X ((s : Int) + 1) else spec_l09Count.l3 k m (N : Int) ((List.range N).map (apB L)) W c X (s : Int) (Go.bits .and .i64 (wrap64 ((p : Int) - 1)) (s : Int))) Q := by
   intro X hX; by_cases e : p = 0
   ·exact EvP.yes (by omega) (hn X hX)
   ·refine EvP.no (by omega) ?_; rw [w64 (n := (p : Int) - 1) (by omega) (by omega), show (p : Int) - 1 = ((p - 1 : Nat) : Int) by omega, and_nat _ _ (by omega) (by omega)]; exact ih _ (Nat.lt_of_le_of_lt Nat.and_le_left (by omega)) X (fun b hb => by rw [Nat.testBit_and, Bool.and_eq_true] at hb; exact hb.2) hX
  have hlen : (((List.range N).map (apB L)).length : Int) = (N : Int) := by simp
  cases ha : apB L p with
  | true =>
   have hX2 : Tabl L N (c + 1) (X.set (s : Int).toNat (wrap64 (rd X (s : Int) + rd W ((s - p : Nat) : Int)))) := by
    refine ⟨by simpa using hX1, fun S hS hr => ?_⟩; by_cases e : S = s
    ·subst e; rw [rd_same _ _ _ (by omega) (by omega)] at hr; by_cases e1 : rd X (S : Int) = 0
     ·by_cases e2 : rd W ((S - p : Nat) : Int) = 0
      ·rw [e1, e2, w64 (by omega) (by omega)] at hr; exact absurd rfl hr
      ·exact colb_more h c c0 S p hp ha (hW.2 (S - p) (by omega) e2)
     ·exact hX.2 S hS e1
    ·rw [rd_other _ _ _ _ (by omega) (by omega) (by omega)] at hr; exact hX.2 S hS hr
   refine EvP.step (fun k => ?_) (go _ hX2); simp only [spec_l09Count.l3]; rw [if_pos (by omega), hlen, if_pos (by omega), rdB_tab _ _ _ (by omega), ha, if_pos rfl, if_pos (by omega), if_pos (by omega), w64 (n := (s : Int) - (p : Int)) (by omega) (by omega), if_pos (by omega), if_pos (by omega), w64 (n := (s : Int) + 1) (by omega) (by omega), show (s : Int) - (p : Int) = ((s - p : Nat) : Int) by omega]; rfl
  | false =>
   refine EvP.step (fun k => ?_) (go X hX); simp only [spec_l09Count.l3]; rw [if_pos (by omega), hlen, if_pos (by omega), rdB_tab _ _ _ (by omega), ha, if_neg (by simp), w64 (n := (s : Int) + 1) (by omega) (by omega)]
include h hN in
theorem count_2 (c : Int) (c0 : 0 ≤ c) (c1 : c ≤ 1000) (W : List Int) (hW : Tabl L N c W) (Q : Int → Prop) (hn : ∀ X, Tabl L N (c + 1) X → EvP (fun k => spec_l09Count.l1 k m (N : Int) ((List.range N).map (apB L)) X (c + 1)) Q) : ∀ (d s : Nat) (X : List Int), N - s = d → s ≤ N → Tabl L N (c + 1) X → EvP (fun k => spec_l09Count.l2 k m (N : Int) ((List.range N).map (apB L)) W c X (s : Int)) Q := by
 intro d
 induction d with
 | zero =>
  intro s X hd hs hX; refine EvP.step (fun k => ?_) (hn X hX); simp only [spec_l09Count.l2]; rw [if_neg (by omega), w64 (n := c + 1) (by omega) (by omega)]
 | succ d ih =>
  intro s X hd hs hX; refine EvP.step (fun k => ?_) (count_3 h m N hN c c0 W hW s (by omega) Q (fun X hX => by have := ih (s + 1) X (by omega) (by omega) hX; rw [show ((s + 1 : Nat) : Int) = (s : Int) + 1 by omega] at this; exact this) s X (fun _ hb => hb) hX); simp only [spec_l09Count.l2]; rw [if_pos (by omega)]
include h hN m1 in
theorem count_1 (N1 : 1 ≤ N) : ∀ (d : Nat) (c : Int) (W : List Int), m - c = d → 0 ≤ c → Tabl L N c W → EvP (fun k => spec_l09Count.l1 k m (N : Int) ((List.range N).map (apB L)) W c) (fun r => r ≠ 0 → Colb L m (N - 1)) := by
 intro d
 induction d with
 | zero =>
  intro c W hd c0 hW; have hW1 := hW.1; (obtain rfl : c = m := by omega); refine ⟨rd W ((N - 1 : Nat) : Int), fun hr => hW.2 _ (by omega) hr, Ev.now (fun k => ?_)⟩; simp only [spec_l09Count.l1]; rw [if_neg (by omega), w64 (n := (N : Int) - 1) (by omega) (by omega), if_pos (by omega), if_pos (by omega), show (N : Int) - 1 = ((N - 1 : Nat) : Int) by omega]
 | succ d ih =>
  intro c W hd c0 hW; refine EvP.step (h := fun k => spec_l09Count.l2 k m (N : Int) ((List.range N).map (apB L)) W c (List.replicate N 0) ((0 : Nat) : Int)) (fun k => ?_) (count_2 h m N hN c c0 (by omega) W hW _ (fun X hX => ih (c + 1) X (by omega) (by omega) hX) N 0 _ rfl (by omega) ⟨by simp, fun S hS hr => ?_⟩)
  ·simp only [spec_l09Count.l1]; rw [if_pos (by omega), if_pos (by omega), if_pos (by omega), Int.toNat_natCast]; rfl
  ·exact absurd (by unfold rd; simp [List.getD_eq_getElem?_getD, List.getElem?_replicate]; split <;> rfl) hr
include h hN m1 in
theorem count_0 (N1 : 1 ≤ N) (m0 : 0 ≤ m) : ∀ (d s : Nat), N - s = d → s ≤ N → EvP (fun k => spec_l09Count.l0 k L m (N : Int) ((List.range s).map (apB L)) (List.replicate N 0) (s : Int)) (fun r => r ≠ 0 → Colb L m (N - 1)) := by
 intro d
 induction d with
 | zero =>
  intro s hd hs; (obtain rfl : s = N := by omega); refine EvP.step (fun k => ?_) (count_1 h m m1 s hN N1 m.toNat 0 ((List.replicate s 0).set (0 : Int).toNat 1) (by omega) (by omega) ⟨by simp, fun S hS hr => ?_⟩)
  ·simp only [spec_l09Count.l0]; rw [if_neg (by omega), if_pos (by simp; omega)]
  ·by_cases e : S = 0
   ·subst e; exact ⟨fun _ => 0, fun a ha => by simp at ha, fun x _ hx => by simp at hx⟩
   ·rw [rd_other _ _ _ _ (by omega) (by omega) (by omega)] at hr; exact absurd (by unfold rd; simp [List.getD_eq_getElem?_getD, List.getElem?_replicate]; split <;> rfl) hr
 | succ d ih =>
  intro s hd hs; refine EvP.step (h := fun k => (spec_l09Apart.f k L (s : Int)).bind fun t => spec_l09Count.l0 k L m (N : Int) ((List.range s).map (apB L) ++ [t]) (List.replicate N 0) ((s : Int) + 1)) (fun k => ?_) (EvP.bind (P := fun t => t = apB L s) ⟨_, rfl, Apart_ h s⟩ (fun t ht => ?_))
  ·simp only [spec_l09Count.l0]; rw [if_pos (by omega), w64 (n := (s : Int) + 1) (by omega) (by omega)]; congr 1; funext t; rw [if_pos (show ((List.range s).map (apB L)).length < 140737488355328 by simp; omega)]
  ·subst ht; have := ih (s + 1) (by omega) (by omega); rw [List.range_succ, List.map_append, show ((s + 1 : Nat) : Int) = (s : Int) + 1 by omega] at this; exact this
end
theorem Count_ {n : Int} {L : List BDr} (h : okBd n L) (m : Int) (m0 : 0 ≤ m) (m1 : m ≤ 1000) : EvP (fun k => spec_l09Count.f k n L m) (fun r => r ≠ 0 → Colb L m (2 ^ n.toNat - 1)) := by
 obtain ⟨h1, h2, h3, h4⟩ := h; have hs := shl1_ n.toNat (by omega); rw [show ((n.toNat : Nat) : Int) = n by omega] at hs; have hN : 2 ^ n.toNat ≤ 1024 := Nat.le_trans (Nat.pow_le_pow_right (n := 2) (by omega) (show n.toNat ≤ 10 by omega)) (by decide); have hN1 : 0 < 2 ^ n.toNat := Nat.two_pow_pos _; refine EvP.eq (h := fun k => spec_l09Count.l0 k L m ((2 ^ n.toNat : Nat) : Int) [] (List.replicate (2 ^ n.toNat) 0) ((0 : Nat) : Int)) (fun k => ?_) (count_0 ⟨h1, h2, h3, h4⟩ m m1 (2 ^ n.toNat) hN hN1 m0 (2 ^ n.toNat) 0 (by omega) (by omega)); unfold spec_l09Count.f; rw [u64s n (by omega) (by omega), hs, if_pos (by omega), if_pos (by omega), if_pos (by omega), Int.toNat_natCast]; rfl
theorem CountZero_ (n : Int) (L : List BDr) (hv : vB n L = true) (m : Int) (m0 : 1 ≤ m) (m1 : m ≤ 6) (hf : fcP L m n.toNat [] = none) : Ev (fun k => spec_CountColours.f k n L m) (0, 0) := by
 have h := vB_says hv; obtain ⟨h1, h2, h3, h4⟩ := h; obtain ⟨r, hr, er⟩ := Count_ ⟨h1, h2, h3, h4⟩ m (by omega) (by omega)
 have hr0 : r = 0 := by
  by_cases e : r = 0
  ·exact e
  ·obtain ⟨f, f1, f2⟩ := hr e; (have hbit : ∀ a : Nat, a < n.toNat → (2 ^ n.toNat - 1).testBit a = true := fun a ha => by rw [Nat.testBit_two_pow_sub_one]; exact decide_eq_true ha)
   have := fcP_full ⟨h1, h2, h3, h4⟩ m (from_ f 0 n.toNat) [] (fun y hy => by
    unfold from_ at hy; rw [List.mem_map] at hy; obtain ⟨j, hj, rfl⟩ := hy; rw [List.mem_range] at hj; have := f1 j (hbit j hj); rw [Int.zero_add]
    exact this) (fun x hx _ => by
    have hb := h4 x hx; rw [List.nil_append, rd_from _ _ _ hb.1 (by omega), rd_from _ _ _ (by omega) (by omega)]
    exact f2 x hx (hbit _ (by omega)) (hbit _ (by omega)))
   rw [from_len] at this; exact absurd hf this
 subst hr0; refine Ev.eq (h := fun k => (spec_l09Code.f k n L m).bind fun t => if t = 0 then (spec_l09Count.f k n L m).bind fun t => some (t, 0) else some (0, t)) (fun k => rfl) (Ev.bind (t := 0) ?_ (Ev.yes rfl (Ev.bind er (Ev.is _)))); refine Ev.eq (h := fun k => (spec_l09Ok.f k n L).bind fun t => if t = true then some 0 else some 1) (fun k => ?_) (Ev.bind (SpecOkB_ n L (by omega)) (by rw [hv]; exact Ev.is _)); unfold spec_l09Code.f; rw [In_, decide_eq_true (show 1 ≤ m ∧ m ≤ 6 from ⟨m0, m1⟩)]; rfl
theorem all_10 (l d v : Int) (hl : -324000 ≤ l ∧ l ≤ 324000) (hd : -324000 ≤ d ∧ d ≤ 324000) (hv : turnOk v) : Ev (fun k => laws_FnTopOfAll.j10 k l d v false) true := by
 refine Ev.step (fun k => ?_) (sky_ l d v hl hd hv); simp only [laws_FnTopOfAll.j10]; rw [if_neg (by simp)]
theorem all_t (l d v : Int) : Ev (fun k => laws_FnTopOfAll.j10 k l d v true) true := Ev.now (fun k => by simp only [laws_FnTopOfAll.j10]; rfl)
theorem all_9 (l d v : Int) : Ev (fun k => laws_FnTopOfAll.j9 k l d v) true := by
 have hu : Ev (fun k => spec_IsUp.f k l d 0) (if (-324000 ≤ l ∧ l ≤ 324000) ∧ (-324000 ≤ d ∧ d ≤ 324000) then (bup l d 0, 0) else (false, 2)) := ⟨6, fun k hk => by
  show spec_IsUp.f k l d 0 = _; rw [SpecIsUp_ l d 0 k hk]; by_cases h : (-324000 ≤ l ∧ l ≤ 324000) ∧ (-324000 ≤ d ∧ d ≤ 324000)
  ·rw [if_pos ⟨h.1, h.2, by omega⟩, if_pos h]
  ·rw [if_neg (by omega), if_neg h]⟩
 have ht : Ev (fun k => spec_SettingByTurning.f k l d v) (if ((-324000 ≤ l ∧ l ≤ 324000) ∧ (-324000 ≤ d ∧ d ≤ 324000)) ∧ turnOk v then (if bup l d 0 = true then (if bup l d 648000 = true then (0, 3) else (setm l d (1296000 / v) * (1296000 / v), 0)) else (0, 6)) else (0, 2)) := ⟨648011, fun k hk => SpecTurning_ l d v k hk⟩; refine Ev.step (h := ?h) (fun k => ?e) ?r
 case e => rw [laws_FnTopOfAll.j9]
 case r =>
  refine Ev.bind hu (Ev.bind ht ?_); by_cases h : (-324000 ≤ l ∧ l ≤ 324000) ∧ (-324000 ≤ d ∧ d ≤ 324000)
  ·rw [if_pos h]; refine Ev.yes rfl ?_; by_cases hv : turnOk v
   ·rw [if_pos ⟨h, hv⟩]
    have : ((if bup l d 0 = true then (if bup l d 648000 = true then ((0, 3) : Int × Int) else (setm l d (1296000 / v) * (1296000 / v), 0)) else (0, 6)).2 == 2) = false := by
     split
     ·split <;> rfl
     ·rfl
    rw [this]; exact all_10 l d v h.1 h.2 hv
   ·rw [if_neg (fun x => hv x.2)]; exact all_t l d v
  ·rw [if_neg h]; exact Ev.no (by decide) (all_t l d v)
theorem all_8 (n : Int) (L : List BDr) (l d v y : Int) : Ev (fun k => laws_FnTopOfAll.j8 k n L l d v y false) true := by
 refine Ev.step (fun k => ?_) (all_9 l d v); simp only [laws_FnTopOfAll.j8]; rw [if_neg (by simp)]
section
variable (n : Int) (L : List BDr) (hv : vB n L = true) (l d v : Int) (y : Int) (y1 : 1 ≤ y) (y2 : y ≤ 6) (hmin : ∀ z, 1 ≤ z → z < y → fcP L z n.toNat [] = none)
include hv y1 y2 hmin in
theorem all_8y : Ev (fun k => laws_FnTopOfAll.j8 k n L l d v y (decide (y > 1))) true := by
 by_cases c : y > 1
 ·rw [decide_eq_true c]; refine Ev.step (h := fun k => (spec_CountColours.f k n L (y - 1)).bind fun t => if t.2 = 0 then (if t.1 = 0 then laws_FnTopOfAll.j9 k l d v else none) else none) (fun k => ?_) (Ev.bind (CountZero_ n L hv (y - 1) (by omega) (by omega) (hmin _ (by omega) (by omega))) (Ev.yes rfl (Ev.yes rfl (all_9 l d v)))); simp only [laws_FnTopOfAll.j8]; rw [if_pos trivial, w64 (n := y - 1) (by omega) (by omega)]
 ·rw [decide_eq_false c]; exact all_8 n L l d v y
include hv y1 y2 hmin in
theorem all_l (r : List Int) (hr : ∀ x ∈ r, 0 ≤ x ∧ x < y) (hl : r.length ≤ 1000) : ∀ (e : Nat) (x : Int), (r.length : Int) - x = e → 0 ≤ x → Ev (fun k => laws_FnTopOfAll.l0 k n L l d v y r true x) true := by
 intro e
 induction e with
 | zero =>
  intro x hd hx; refine Ev.step (h := fun k => laws_FnTopOfAll.j7 k n L l d v y r true x false) (fun k => ?_) (Ev.step (fun k => ?_) (all_8y n L hv l d v y y1 y2 hmin))
  ·simp only [laws_FnTopOfAll.l0]; rw [if_pos trivial, decide_eq_false (by omega)]
  ·simp only [laws_FnTopOfAll.j7]; rw [if_neg (by simp), if_pos trivial]
 | succ e ih =>
  intro x hd hx; have := hr _ (rd_in r x hx (by omega)); refine Ev.step (h := fun k => laws_FnTopOfAll.j7 k n L l d v y r true x true) (fun k => ?_) (Ev.step (fun k => ?_) (ih (x + 1) (by omega) (by omega)))
  ·simp only [laws_FnTopOfAll.l0]; rw [if_pos trivial, decide_eq_true (by omega)]
  ·simp only [laws_FnTopOfAll.j7]; rw [if_pos trivial, if_pos hx, if_pos (by omega), if_neg (by omega), if_neg (by omega), w64 (n := x + 1) (by omega) (by omega)]
end
theorem all_4 (n : Int) (L : List BDr) (l d v y c : Int) (r : List Int) : Ev (fun k => laws_FnTopOfAll.j4 k n L l d v y r c false false) true := by
 refine Ev.step (h := fun k => laws_FnTopOfAll.j5 k n L l d v y r false) (fun k => ?_) (Ev.step (h := fun k => laws_FnTopOfAll.l0 k n L l d v y r false 0) (fun k => ?_) (Ev.step (h := fun k => laws_FnTopOfAll.j7 k n L l d v y r false 0 false) (fun k => ?_) (Ev.step (fun k => ?_) (all_8 n L l d v y))))
 ·simp only [laws_FnTopOfAll.j4]; rw [if_neg (by simp), if_neg (by simp)]
 ·simp only [laws_FnTopOfAll.j5]
 ·simp only [laws_FnTopOfAll.l0]; rw [if_neg (by simp)]
 ·simp only [laws_FnTopOfAll.j7]; rw [if_neg (by simp), if_neg (by simp)]
theorem FirstC_bad (n : Int) (L : List BDr) (hL : L.length ≤ 1000000) (m : Int) (z : Int) (hz : z = if vB n L = true then (if 1 ≤ m ∧ m ≤ 6 then 0 else 2) else 1) (hne : z ≠ 0) : Ev (fun k => impl_FirstColours.f k n L m) ([], z) := by
 have hm : Ev (fun k => impl_manyCode.f k n L m) z := by
  refine Ev.eq (h := fun k => (impl_ValidBorders.f k n L).bind fun t => (impl_check.f t (decide (1 ≤ m ∧ m ≤ 6))).bind fun t => some t) (fun k => ?_) (Ev.bind (ValidB_ n L hL) (by
   rw [check_, hz]; by_cases h1 : vB n L = true
   ·by_cases h2 : 1 ≤ m ∧ m ≤ 6
    ·simp only [h1, h2, if_true, decide_true]; exact Ev.is _
    ·simp only [h1, h2, if_true, if_false, decide_false]; exact Ev.is _
   ·simp only [h1, if_false]; exact Ev.is _))
  unfold impl_manyCode.f; rw [within_]; rfl
 exact Ev.eq (h := fun k => (impl_manyCode.f k n L m).bind fun t => if t = 0 then ((fc_walk k n L m []).bind fun r => if 0 < r.length then some (r, 0) else some ([], 3)) else some ([], t)) (fun k => rfl) (Ev.bind hm (Ev.no hne (Ev.is _)))
theorem all_1 (n : Int) (L : List BDr) (hL : L.length ≤ 1000000) (l d v : Int) : Ev (fun k => laws_FnTopOfAll.j1 k n L l d v false) true := by
 by_cases hv : vB n L = true
 ·have hb := vB_says hv; have hb1 := hb.1; have hb2 := hb.2.1; obtain ⟨⟨y, z0⟩, ⟨y0, y1, y2, y3, y4⟩, evy⟩ := FewestC_ n L hv; simp only at y0 y1 y2 y3 y4; subst y0; have evs := SpecFewestC_ n L hL hv y y1 y2 y3 y4
  obtain ⟨r, hr⟩ : ∃ r, fcP L y n.toNat [] = some r := by
   cases h : fcP L y n.toNat [] with
   | none => exact absurd h y3
   | some r => exact ⟨r, rfl⟩
  obtain ⟨q, q1, q2, q3, q4⟩ := fcP_sound hb y n.toNat [] hr (fun x _ hx => by have := hb.2.2.2 x ‹_›; simp at hx; omega); (obtain rfl : r = q := by simpa using q1); refine Ev.step (h := ?h) (fun k => ?e) ?r
  case e => rw [laws_FnTopOfAll.j1, if_neg (by simp)]
  case r =>
   by_cases c : y ≤ 6
   ·have evr := FirstC_ n L hv y y1 c r hr; have eva := FirstClash_ n L hv r (by omega) (fun x hx => by have := q3 x hx; omega) q4; have evb := SpecClash_ n L hv r (by omega) (fun x hx => by have := q3 x hx; omega) q4; have evd := SpecFirstC_ n L hv y y1 c r hr; refine Ev.bind evs (Ev.bind evy (Ev.bind evr (Ev.yes rfl (Ev.yes rfl ?_)))); (have e0 : (y != y) = false := by simp); show Ev (fun k => laws_FnTopOfAll.j2 k n L l d v 0 y r 0 (y != y)) true; rw [e0]; refine Ev.step (h := fun k => laws_FnTopOfAll.j3 k n L l d v 0 y r 0 true) (fun k => ?_) (Ev.step (h := fun k => laws_FnTopOfAll.j4 k n L l d v y r 0 true false) (fun k => ?_) (Ev.step (h := ?h4) (fun k => ?e4) ?r4))
    ·simp only [laws_FnTopOfAll.j2]; rw [if_neg (by simp), if_pos trivial, decide_eq_true c]
    ·simp only [laws_FnTopOfAll.j3]; rw [if_pos trivial, if_pos trivial]
    case e4 => rw [laws_FnTopOfAll.j4, if_neg (by simp), if_pos rfl]
    case r4 =>
     refine Ev.bind eva (Ev.bind evb (Ev.bind evd (Ev.no (by omega) (Ev.no (by omega) (Ev.yes rfl (Ev.yes rfl (Ev.yes rfl (Ev.yes rfl (Ev.bind (a2Same_ r (by omega)) (Ev.yes rfl ?_)))))))))); refine Ev.step (h := fun k => laws_FnTopOfAll.l0 k n L l d v y r true 0) (fun k => ?_) (all_l n L hv l d v y y1 c y4 r q3 (by omega) r.length 0 (by omega) (by omega)); simp only [laws_FnTopOfAll.j5]
   ·have evr := FirstC_bad n L hL y 2 (by rw [if_pos hv, if_neg (by omega)]) (by decide); refine Ev.bind evs (Ev.bind evy (Ev.bind evr (Ev.yes rfl (Ev.yes rfl ?_)))); (have e0 : (y != y) = false := by simp); show Ev (fun k => laws_FnTopOfAll.j2 k n L l d v 0 y [] 2 (y != y)) true; rw [e0]; refine Ev.step (h := fun k => laws_FnTopOfAll.j3 k n L l d v 0 y [] 2 false) (fun k => ?_) (Ev.step (fun k => ?_) (all_4 n L l d v y 2 []))
    ·simp only [laws_FnTopOfAll.j2]; rw [if_neg (by simp), if_pos trivial, decide_eq_false c]
    ·simp only [laws_FnTopOfAll.j3]; rw [if_pos trivial, if_neg (by simp), if_pos trivial]; rfl
 ·have evs : Ev (fun k => spec_FewestColours.f k n L) (0, 1) :=
   Ev.eq (h := fun k => (spec_l09Ok.f k n L).bind fun t => if t = true then (spec_l09Fewest.f k n L).bind fun t => some (t, 0) else some (0, 1)) (fun k => rfl) (Ev.bind (SpecOkB_ n L hL) (Ev.no hv (Ev.is _)))
  have evy : Ev (fun k => impl_FewestColours.f k n L) (0, 1) :=
   Ev.eq (h := fun k => (impl_ValidBorders.f k n L).bind fun t => if t = true then (impl_fewestColours.f k n L).bind fun t => some (t, 0) else some (0, 1)) (fun k => rfl) (Ev.bind (ValidB_ n L hL) (Ev.no hv (Ev.is _)))
  have evr := FirstC_bad n L hL 0 1 (by rw [if_neg hv]) (by decide); refine Ev.step (h := ?h) (fun k => ?e) ?r
  case e => rw [laws_FnTopOfAll.j1, if_neg (by simp)]
  case r =>
   refine Ev.bind evs (Ev.bind evy (Ev.bind evr (Ev.yes rfl (Ev.no (by decide) ?_)))); refine Ev.step (h := fun k => laws_FnTopOfAll.j3 k n L l d v 1 0 [] 1 false) (fun k => ?_) (Ev.step (fun k => ?_) (all_4 n L l d v 0 1 []))
   ·simp only [laws_FnTopOfAll.j2]; rw [if_neg (by simp), if_neg (by simp)]
   ·simp only [laws_FnTopOfAll.j3]; rw [if_neg (by simp)]
theorem all_0 (c : List PLc) (hc : c.length ≤ 1000000) (m : Int) (n : Int) (L : List BDr) (hL : L.length ≤ 1000000) (l d v : Int) : Ev (fun k => laws_FnTopOfAll.j0 k c m n L l d v false) true := by
 have hcode := SpecCodeC_ c m hc; have h1 := all_1 n L hL l d v; refine Ev.step (h := ?h) (fun k => ?e) ?r
 case e => rw [laws_FnTopOfAll.j0, if_neg (by simp)]
 case r =>
  by_cases hz : okCh c = true ∧ 0 ≤ m ∧ m ≤ 3000
  ·obtain ⟨ho, m0, m1⟩ := hz; obtain ⟨o1, o2, o3⟩ := (okCh_iff c).1 ho; rw [if_pos ho, if_pos ⟨m0, m1⟩] at hcode; obtain ⟨pf, ⟨q, rfl, hq, hmin, M, X, hN, hF⟩, evf⟩ := FewestPts_ c m ho; obtain ⟨ps, ⟨q', rfl, hq', _, M', X', hN', hF'⟩, evs⟩ := SpecFewestPts_ c m ho; have hone := need_one hN hN'; have hqq : q = q' := fol_one (X := X) (X' := X') (fun t t0 t1 => ⟨((hN t t0 (by omega)).2.2 t1).1.1, (hone ((c.length : Int) - 1 - t).toNat t (by omega) t0).2 t1⟩) q q' 0 (by omega) hF hF'; subst hqq; obtain ⟨q2, hq2, evl⟩ := LongSteps_ c m ho m0 m1; have hle := hmin q2 hq2; have hlen := path_le q 0 hq; have evS : Ev (fun k => spec_FewestPoints.f k c m) (0 :: q, 0) := Ev.eq (h := fun k => (spec_l07Code.f k c m).bind fun t => if t = 0 then ((spec_l07Fewest.f k c m).bind fun t => some (t, 0)) else some ([], t)) (fun k => rfl) (Ev.bind hcode (Ev.yes rfl (Ev.bind evs (Ev.is _)))); refine Ev.bind evS (Ev.bind (FewestPoints_ c m ho m0 m1 _ evf) (Ev.bind evl (Ev.yes rfl (Ev.yes rfl (Ev.yes rfl (Ev.bind (a2Same_ (0 :: q) (by rw [List.length_cons]; omega)) (Ev.yes rfl (Ev.bind (a2Stand_ c m ho m0 m1 q hq) (Ev.yes rfl (Ev.bind (a2Stand_ c m ho m0 m1 q2 hq2) (Ev.yes rfl ?_))))))))))); simp only []; rw [decide_eq_false (by rw [List.length_cons, List.length_cons]; omega)]; exact h1
  ·have hz2 : (if okCh c = true then (if 0 ≤ m ∧ m ≤ 3000 then 0 else 2) else 1 : Int) ≠ 0 := by
    by_cases h : okCh c = true
    ·rw [if_pos h, if_neg (fun x => hz ⟨h, x⟩)]; decide
    ·rw [if_neg h]; decide
   have hchk : (impl_check.f (okCh c) (decide (0 ≤ m ∧ m ≤ 3000))) = some (if okCh c = true then (if 0 ≤ m ∧ m ≤ 3000 then 0 else 2) else 1) := by
    rw [check_]; by_cases h2 : 0 ≤ m ∧ m ≤ 3000
    ·simp only [h2, decide_true, if_true]; simp
    ·simp only [h2, decide_false, if_false]; simp
   generalize (if okCh c = true then (if 0 ≤ m ∧ m ≤ 3000 then 0 else 2) else 1 : Int) = z at hcode hz2 hchk; have evS : Ev (fun k => spec_FewestPoints.f k c m) ([], z) := Ev.eq (h := fun k => (spec_l07Code.f k c m).bind fun t => if t = 0 then ((spec_l07Fewest.f k c m).bind fun t => some (t, 0)) else some ([], t)) (fun k => rfl) (Ev.bind hcode (Ev.no hz2 (Ev.is _)))
   have evF : Ev (fun k => impl_FewestPoints.f k c m) ([], z) := ⟨0, fun k _ => by
    show impl_FewestPoints.f k c m = _; unfold impl_FewestPoints.f; rw [okCh_, IsBound_]; simp only [Option.bind_some]; rw [hchk]; simp only [Option.bind_some]
    rw [if_neg hz2]⟩
   have evL : Ev (fun k => impl_LongSteps.f k c m) ([], z) := ⟨0, fun k _ => by
    show impl_LongSteps.f k c m = _; unfold impl_LongSteps.f; rw [okCh_, IsBound_]; simp only [Option.bind_some]; rw [hchk]; simp only [Option.bind_some]
    rw [if_neg hz2]⟩
   exact Ev.bind evS (Ev.bind evF (Ev.bind evL (Ev.yes rfl (Ev.yes rfl (Ev.no hz2 h1)))))
theorem FnTopOfAll : laws_FnTopOfAll.Pure := by
 intro c m n L l d v _ _ _ _ _ _ _ _ _ _ _
 suffices h : Ev (fun k => laws_FnTopOfAll.f k c m n L l d v) true from by
  obtain ⟨K, hK⟩ := h; exact ⟨K, hK K (Nat.le_refl _)⟩
 have ht : Ev (fun k => laws_FnTopOfAll.j0 k c m n L l d v true) true := Ev.now (fun k => by simp only [laws_FnTopOfAll.j0]; rfl); unfold laws_FnTopOfAll.f; by_cases h1 : (c.length : Int) > 10000
 ·exact Ev.yes h1 ht
 ·refine Ev.no h1 ?_; by_cases h2 : (L.length : Int) > 10000
  ·rw [decide_eq_true h2]; exact ht
  ·rw [decide_eq_false h2]; exact all_0 c (by omega) m n L (by omega) l d v
end Go.Proofs.YtmgljagkmaoopaaGreat.Pure
