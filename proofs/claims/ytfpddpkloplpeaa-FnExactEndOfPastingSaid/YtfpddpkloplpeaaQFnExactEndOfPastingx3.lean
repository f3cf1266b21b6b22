/- Walks of the Go functions that the law FnExactEndOfPasting reaches: written by a program of this session. -/
import Derived.Test.YtfpddpkloplpeaaQFnExactEndOfPastingx0
import Derived.Test.YtfpddpkloplpeaaQFnExactEndOfPastingx2
namespace Go.Proofs.Ytfpddpkloplpeaa.QFnExactEndOfPasting
open Go.RowKit Go.Proofs.YtfpddpkloplpeaaW.PrintWords Go.Proofs.YtfpddpkloplpeaaW.PrintLast Go.Proofs.YtfpddpkloplpeaaW.PrintMore
attribute [local go_sem] max2_int min2_int max_two min_two max_three min_three max_four min_four   -- for this text's walks alone
set_option linter.unusedVariables false
set_option linter.unusedSimpArgs false

/-! ### impl_isWork: function 43 -/
def impl_isWork.f (a0 : Int) (a1 : Int) : Option (Bool) := (impl_within.f a0 1 1000).bind fun t146 => (if t146 = true then ((impl_within.f a1 0 1000).bind fun t147 => (some t147)) else (some false))
set_option maxHeartbeats 8000000 in
set_option maxRecDepth 100000 in
theorem impl_isWork.calls (a0 : Int) (a1 : Int) (r : Bool) (w : World) (h : impl_isWork.f a0 a1 = some r) :
    Calls Try.prog 43 #[.int .i64 a0, .int .i64 a1] w fun e w' => e = .returned (.bool r) ∧ Drawn0 w w' := by
  have H : ((impl_within.f a0 1 1000).bind fun t146 => (if t146 = true then ((impl_within.f a1 0 1000).bind fun t147 => (some t147)) else (some false))) = some r := h
  clear h
  replace H := Option.bind_eq_some_iff.mp H
  obtain ⟨t146, A30, H⟩ := H
  replace H : (if t146 = true then ((impl_within.f a1 0 1000).bind fun t147 => (some t147)) else (some false)) = some r := H
  have A3 := Aside0.mk A30
  clear A30
  by_cases c4 : t146 = true
  · subst c4
    have H1 : ((impl_within.f a1 0 1000).bind fun t147 => (some t147)) = some r := by rw [if_pos rfl] at H; exact H
    clear H
    have H := H1
    clear H1
    replace H := Option.bind_eq_some_iff.mp H
    obtain ⟨t147, A50, H⟩ := H
    replace H : (some t147) = some r := H
    have A5 := Aside0.mk A50
    clear A50
    obtain rfl := Option.some.inj H
    go_enter Try.func43, Try.ntmps43
    go_wp2_with (first | ((with_reducible refine gate_callee (f := 38) rfl ?_); refine goesL_ (some 6) rfl rfl Try.func38 (by kernel_rfl) rfl #[.int .i64 a0, .int .i64 1, .int .i64 1000] rfl (by (try simp only [List.map_toArray, List.map_cons, List.map_nil]); first | done | rfl | (simp only [List.length_drop, List.length_take]; rfl)) ?_; (with_reducible refine (impl_within.calls a0 1 1000 true _ A3.out).mono ?_); rintro e w' ⟨rfl, ⟨nd, rfl⟩⟩; refine ⟨_, rfl, ?_⟩) | (go_at_call 38; (with_reducible refine (impl_within.calls a1 0 1000 t147 _ A5.out).mono ?_); rintro e w' ⟨rfl, ⟨nd, rfl⟩⟩))
    go_ret
    exact ⟨by first | rfl | (simp; done) | (simp [*]; done), by repeat (first | exact Drawn0.refl _ | apply Drawn0.step)⟩
  · replace c4 := Bool.eq_false_iff.mpr c4
    subst c4
    have H1 : (some false) = some r := by rw [if_neg (show ¬ (false = true) by decide)] at H; exact H
    clear H
    have H := H1
    clear H1
    obtain rfl := Option.some.inj H
    go_enter Try.func43, Try.ntmps43
    go_wp2_with (first | ((with_reducible refine gate_callee (f := 38) rfl ?_); refine goesL_ (some 6) rfl rfl Try.func38 (by kernel_rfl) rfl #[.int .i64 a0, .int .i64 1, .int .i64 1000] rfl (by (try simp only [List.map_toArray, List.map_cons, List.map_nil]); first | done | rfl | (simp only [List.length_drop, List.length_take]; rfl)) ?_; (with_reducible refine (impl_within.calls a0 1 1000 false _ A3.out).mono ?_); rintro e w' ⟨rfl, ⟨nd, rfl⟩⟩; refine ⟨_, rfl, ?_⟩))
    go_ret
    exact ⟨by first | rfl | (simp; done) | (simp [*]; done), by repeat (first | exact Drawn0.refl _ | apply Drawn0.step)⟩

-- inside a hand-given walk: function 93 (bits_Mul32)

-- inside a hand-given walk: function 94 (bits_Mul64)

-- inside a hand-given walk: function 80 (bits_Mul)

/-! ### slices_Repeat_int64_int64: function 75 -/
theorem u64w (n : Int) (h0 : 0 ≤ n) (h1 : n < 18446744073709551616) : IntKind.u64.wrap n = n := by
  simp only [IntKind.wrap, IntKind.bits, IntKind.signed]; simp; omega
theorem u64_low (m : Int) (h0 : 0 ≤ m) (h1 : m ≤ 1000) : bits .and .u64 m 4294967295 = m := by
  have := bits_mask .u64 32 (by decide) (fun n a b => u64w n a (by omega)) 32 (by decide) m h0 (by omega)
  rw [show ((2 : Int) ^ 32 - 1) = 4294967295 by decide] at this
  rw [this]; omega
set_option maxHeartbeats 4000000 in
set_option maxRecDepth 100000 in
theorem mul64_one (m : Int) (h0 : 0 ≤ m) (h1 : m ≤ 1000) (w : World) : Calls Try.prog 94 #[.int .u64 1, .int .u64 m] w fun e w' => e = .returned (.tuple #[.int .u64 0, .int .u64 m]) ∧ ∃ q, w' = w.drewN q := by
  have hm := u64_low m h0 h1
  have h1' : bits .and .u64 1 4294967295 = 1 := by decide
  have hd : m / 4294967296 = 0 := by omega
  have hw := u64w m h0 (by omega)
  go_enter Try.func94, Try.ntmps94
  go_wp2
  go_ret2
  refine ⟨?_, 0, rfl⟩
  have hz : bits BinOp.and IntKind.u64 0 4294967295 = 0 := by decide
  simp only [Array.getD]
  simp [hz]
  (try decide)
set_option maxHeartbeats 4000000 in
set_option maxRecDepth 100000 in
theorem mul_one_ (m : Int) (h0 : 0 ≤ m) (h1 : m ≤ 1000) (w : World) : Calls Try.prog 80 #[.int .u64 1, .int .u64 m] w fun e w' => e = .returned (.tuple #[.int .u64 0, .int .u64 m]) ∧ ∃ q, w' = w.drewN q := by
  have H0 := Aside0.mk h0
  have H1 := Aside0.mk h1
  clear h0 h1
  go_enter Try.func80, Try.ntmps80
  go_wp2_with (go_at_call 94; refine (mul64_one m H0.out H1.out _).mono ?_; rintro e w' ⟨rfl, q, rfl⟩)
  go_ret2
  exact ⟨rfl, _, rfl⟩
/-- q times x, from place o on. -/
def splice (x : Int) : Nat → Nat → List Int → List Int
  | 0, _, xs => xs
  | q + 1, o, xs => splice x q (o + 1) (xs.set o x)
theorem splice_length (x : Int) : ∀ (q o : Nat) (xs : List Int), (splice x q o xs).length = xs.length
  | 0, _, _ => rfl
  | q + 1, o, xs => by rw [splice, splice_length x q]; simp
theorem splice_at (x : Int) : ∀ (q o : Nat) (xs : List Int) (j : Nat), j < xs.length → (splice x q o xs).getD j 0 = if o ≤ j ∧ j < o + q then x else xs.getD j 0
  | 0, o, xs, j, h => by rw [splice, if_neg (by omega)]
  | q + 1, o, xs, j, h => by
    rw [splice, splice_at x q (o + 1) (xs.set o x) j (by simpa using h)]
    by_cases e : j = o
    · subst e
      rw [if_neg (by omega), if_pos (by omega)]
      simp [List.getD_eq_getElem?_getD, h]
    · by_cases c : o + 1 ≤ j ∧ j < o + 1 + q
      · rw [if_pos c, if_pos (by omega)]
      · rw [if_neg c, if_neg (by omega)]
        simp [List.getD_eq_getElem?_getD, List.getElem?_set, Ne.symm e]
theorem R_splice {e base g n cap : Nat} {ok : Nat → Prop} (x : Int) : ∀ (q o : Nat) (xs : List Int) (w : World), (Kd.int .i64).R e w base ok (.slice (some ⟨g, 0, none⟩) n cap) xs → (Kd.int .i64).R e (w.setCells g o (List.replicate q (.int .i64 x))) base ok (.slice (some ⟨g, 0, none⟩) n cap) (splice x q o xs)
  | 0, _, _, _, h => h
  | q + 1, o, xs, w, h => by
    have h1 := (Kd.R_putg h (o : Int) x).1
    rw [Int.toNat_natCast] at h1
    exact R_splice x q (o + 1) _ _ h1
theorem below_cells {w : World} {g : Nat} : ∀ (vs : List Value) (o : Nat) (W : World), Below w.heap.size w W → w.heap.size ≤ g → Below w.heap.size w (W.setCells g o vs)
  | [], _, _, h, _ => h
  | v :: r, o, W, h, hg => below_cells r (o + 1) _ (below_set h hg) hg
/-- What the builtin copy does where all that it takes is one number. -/
theorem copy_x (W : World) (base gb o dl dc n cap : Nat) (ok : Nat → Prop) (xs : List Int) (ad : Addr) (sl sc q : Nat) (x : Int) (ty : TypeId) (hR : (Kd.int .i64).R 2 W base ok (.slice (some ⟨gb, 0, none⟩) n cap) xs) (hoq : o + q ≤ n) (hq : q = Nat.min sl dl) (hsrc : ∀ j : Nat, j < q → W.cell? (ad.add j) = some (.int .i64 x)) :
    (Builtin.copy_ #[25, 25] ty #[.slice (some ⟨gb, o, none⟩) dl dc, .slice (some ad) sl sc]).run Try.prog W = .ok (goInt q) (W.setCells gb o (List.replicate q (.int .i64 x))) := by
  have h := run_copy_cells (P := Try.prog) W 25 25 ty 2 gb o dl dc ad sl sc (List.replicate q (.int .i64 x)) Try.underlying25 (by kernel_rfl) (by rw [List.length_replicate]; exact hq) (fun j v hj => by
      rw [List.getElem?_replicate] at hj
      split at hj
      · rename_i hlt
        cases hj
        exact hsrc j hlt
      · cases hj) (fun j hj => by
      rw [List.length_replicate] at hj
      have := (Kd.R_celln 0 hR ((o + j : Nat) : Int) (by omega) (by omega)).1
      rw [Int.toNat_natCast] at this
      rw [this]; rfl) (fun j hj => by
      rw [List.length_replicate] at hj
      have := (Kd.R_celln 0 hR ((o + j : Nat) : Int) (by omega) (by omega)).2
      rw [Int.toNat_natCast] at this
      exact this) (fun v hv => by
      have := List.eq_of_mem_replicate hv
      subst this; rfl)
  rw [List.length_replicate] at h
  exact h
def slices_Repeat_int64_int64.f (l0 : List Int) (a1 : Int) : Option (List Int) := if l0.length = 1 ∧ 1 ≤ a1 ∧ a1 ≤ 1000 then some (List.replicate a1.toNat (rd l0 0)) else none
def slices_Repeat_int64_int64.T9 : Bool × List (List Nat × List Nat) := (true, [([], []), ([], []), ([], []), ([1, 2], [1, 2]), ([], []), ([], []), ([4, 5], [4, 5]), ([3, 6], [3, 6]), ([0, 7], [0, 7]), ([8, 7, 0, 1, 2, 3, 4, 5, 6, 7, 8], [0, 2, 5, 8])])
theorem slices_Repeat_int64_int64.tab9 : rtab .any (opsOf Try.f75 9) = slices_Repeat_int64_int64.T9 := by kernel_rfl
set_option maxHeartbeats 8000000 in
set_option maxRecDepth 1000000 in
theorem slices_Repeat_int64_int64.calls (A0 : Option Addr) (c0 : Nat) (l0 : List Int) (a1 : Int) (r : List Int) (w : World) (hr0 : Kd.C (Kd.int .i64) w A0 l0.length l0) (hc0 : l0.length ≤ c0) (h : slices_Repeat_int64_int64.f l0 a1 = some r) :
    Calls Try.prog 75 #[.slice A0 l0.length c0, .int .i64 a1] w fun e w' => ∃ v0_ : Value, e = .returned (v0_) ∧ Kd.R (Kd.int .i64) 2 w' w.heap.size (fun _ => True) v0_ r ∧ Below w.heap.size w w' := by
  unfold slices_Repeat_int64_int64.f at h
  by_cases hl : l0.length = 1 ∧ 1 ≤ a1 ∧ a1 ≤ 1000
  case neg => rw [if_neg hl] at h; exact absurd h (by simp)
  rw [if_pos hl] at h
  obtain rfl := Option.some.inj h
  clear h
  obtain ⟨hl, ha1, ha2⟩ := hl
  obtain ⟨x, rfl⟩ : ∃ x, l0 = [x] := List.length_eq_one_iff.1 hl
  obtain ⟨m, rfl⟩ : ∃ m : Nat, a1 = (m : Int) := ⟨a1.toNat, by omega⟩
  obtain ⟨ad, rfl, hx⟩ := Kd.at_int hr0 0 (by omega) (by simp)
  rw [Int.toNat_natCast, show rd [x] 0 = x from rfl]
  have hx : w.cell? (ad.add 0) = some (.int .i64 x) := hx
  have hw := u64w (m : Int) (by omega) (by omega)
  have hv : IntKind.i64.wrap (m : Int) = (m : Int) := by rw [i64_w]; unfold wrap64; omega
  have hm0 : ¬ (m : Int) < 0 := by omega
  have hm1 : ¬ (9223372036854775807 : Int) < (m : Int) := by omega
  have hm2 : 0 ≤ (m : Int) := by omega
  have HX := Aside0.mk hx
  have HB := Aside0.mk (Below.refl w.heap.size w)
  clear hx hr0 hl hc0
  go_enter Try.func75, Try.ntmps75
  go_wp2_with (first | (go_at_call 80; refine (mul_one_ (m : Int) (by omega) (by omega) _).mono ?_; rintro e w' ⟨rfl, q, rfl⟩) | ((with_reducible refine gate_dst (N := 30) rfl ?_); refine Kd.R_make (Kd.int .i64) _ 2 rfl (N := 30) rfl 25 _ _ rfl (m : Int) rfl rfl Try.underlying25 (.int .i64 0) 8 info2 rfl (by decide) (by omega) 0 (ok := fun _ => True) (okp := fun _ => True) rfl (fun _ hk => hk) trivial (by omega) (by omega) (Below.refl _ _) (Nat.le_refl _) ?_; intro v1 w3 ho4 hb hg_ hnew_; clear hg_ hnew_; rw [Int.toNat_natCast] at ho4; have n0_ := Aside0.mk (Kd.R_lower ho4 (below_size (pw_below_drewN HB.out _))); have n1_ := Aside0.mk (below_step (pw_below_drewN HB.out _) hb); clear HB; have HO := n0_; have HB := n1_; clear n0_ n1_ hb ho4; obtain ⟨gb, cap, eo, gbb, gl, cl⟩ := Kd.R_form HO.out (by simp; omega); subst eo; have n0_ := Aside0.mk (show (Kd.int .i64).R 2 w3 w.heap.size (fun _ => True) (.slice (some ⟨gb, 0, none⟩) m cap) (List.replicate m 0) from (by have q := HO.out; rw [List.length_replicate] at q; exact q)); clear HO; have HO := n0_; clear n0_; have GBB := Aside0.mk gbb; clear gbb gl cl) | ((with_reducible refine gate_builtin (b := .copy) (xs := #[.tmp 31, .tmp 32]) rfl ?_); go_loud (refine Lib.wpList_copy_run w3 rfl (.tmp 31) (.tmp 32) 25 25 rfl (.slice (some ⟨gb, 0, none⟩) m cap) (.slice (some ad) 1 c0) rfl rfl (copy_x w3 _ gb 0 m cap m cap _ _ ad 1 c0 1 x _ HO.out (by omega) (Nat.min_eq_left (show 1 ≤ m by omega)).symm (fun j hj => ?src)) ?_; (case src => (obtain rfl : j = 0 := by omega); exact (HB.out.cell (World.block_lt_of_cell? w _ HX.out)).trans HX.out); have n0_ := Aside0.mk (R_splice x 1 0 _ _ HO.out); have n1_ := Aside0.mk (below_cells (List.replicate 1 (.int .i64 x)) 0 _ HB.out GBB.out); clear HO HB; have HO := n0_; have HB := n1_; clear n0_ n1_)))
  go_loopg [8] m (fun gg s8 wr => ∃ (p : Nat) (xs : List Int), 1 ≤ p ∧ p ≤ m ∧ m - p ≤ gg ∧ s8 = .int .i64 p ∧ Aside0 (xs.length = m ∧ ∀ j, j < p → xs.getD j 0 = x) ∧ Aside0 ((Kd.int .i64).R 2 wr w.heap.size (fun _ => True) (.slice (some ⟨gb, 0, none⟩) m cap) xs) ∧ Aside0 (Below w.heap.size w wr))
  case atStart =>
    refine ⟨1, splice x 1 0 (List.replicate m 0), by omega, by omega, by omega, rfl, ⟨by rw [splice_length, List.length_replicate], fun j hj => ?_⟩, HO, HB⟩
    rw [splice_at x 1 0 _ j (by rw [List.length_replicate]; omega), if_pos (by omega)]
  case round =>
    clear HO HB
    obtain ⟨p, xs, hp1, hpm, hgp, rfl, HL, HO, HB⟩ := hrel
    by_cases hlt : p < m
    · have hltz : (p : Int) < (m : Int) := by omega
      have hcap := (Kd.R_reads' HO.out).2.1
      have hcap0 : (p : Int) ≤ (cap : Int) := by omega
      have hpz : (0 : Int) ≤ (p : Int) := by omega
      have hpt : (p : Int).toNat = p := Int.toNat_natCast p
      have hle : (p : Int) ≤ (m : Int) := by omega
      go_wp2
      refine start_ (n := 10) (S := fun _ => True) (ds := []) #[false, false, false, false, false, false, false, false, false, false] (by kernel_rfl) rfl rfl trivial (fun hHeld => ?_); refine with_tab slices_Repeat_int64_int64.tab9 (fun HT_ => ?_)
      refine pure_ (i := 0) (N := some 38) (v := ?_) (a' := ?_) #[true, false, false, false, false, false, false, false, false, false] rfl rfl (any_of HT_.out (by kernel_rfl)) (fun _ _ _ h => h) (Or.inl ⟨by rfl, ?_⟩) ?_ ?_
      rotate_left
      · intro w'
        go_simp
        with_reducible rfl
      rotate_left
      · simp only [Act.put, List.setIfInBounds_toArray, List.set_cons_zero, List.set_cons_succ, i64_w, i32_w]
        rfl
      refine pure_ (i := 1) (N := some 39) (v := ?_) (a' := ?_) #[true, true, false, false, false, false, false, false, false, false] rfl rfl (any_of HT_.out (by kernel_rfl)) (fun _ _ _ h => h) (Or.inl ⟨by rfl, ?_⟩) ?_ ?_
      rotate_left
      · intro w'
        go_simp
        with_reducible rfl
      rotate_left
      · simp only [Act.put, List.setIfInBounds_toArray, List.set_cons_zero, List.set_cons_succ, i64_w, i32_w]
        rfl
      refine pure_ (i := 2) (N := some 40) (v := ?_) (a' := ?_) #[true, true, true, false, false, false, false, false, false, false] rfl rfl (any_of HT_.out (by kernel_rfl)) (fun _ _ _ h => h) (Or.inl ⟨by rfl, ?_⟩) ?_ ?_
      rotate_left
      · intro w'
        go_simp
        with_reducible rfl
      rotate_left
      · simp only [Act.put, List.setIfInBounds_toArray, List.set_cons_zero, List.set_cons_succ, i64_w, i32_w]
        rfl
      refine pure_ (i := 4) (N := some 42) (v := ?_) (a' := ?_) #[true, true, true, false, true, false, false, false, false, false] rfl rfl (any_of HT_.out (by kernel_rfl)) (fun _ _ _ h => h) (Or.inl ⟨by rfl, ?_⟩) ?_ ?_
      rotate_left
      · intro w'
        go_simp
        with_reducible rfl
      rotate_left
      · simp only [Act.put, List.setIfInBounds_toArray, List.set_cons_zero, List.set_cons_succ, i64_w, i32_w]
        rfl
      refine pure_ (i := 5) (N := some 43) (v := ?_) (a' := ?_) #[true, true, true, false, true, true, false, false, false, false] rfl rfl (any_of HT_.out (by kernel_rfl)) (fun _ _ _ h => h) (Or.inl ⟨by rfl, ?_⟩) ?_ ?_
      rotate_left
      · intro w'
        go_simp
        with_reducible rfl
      rotate_left
      · simp only [Act.put, List.setIfInBounds_toArray, List.set_cons_zero, List.set_cons_succ, i64_w, i32_w]
        rfl
      refine pure_ (i := 3) (N := some 41) (v := ?_) (a' := ?_) #[true, true, true, true, true, true, false, false, false, false] rfl rfl (any_of HT_.out (by kernel_rfl)) (fun _ _ _ h => h) (Or.inl ⟨by rfl, ?_⟩) ?_ ?_
      rotate_left
      · intro w'
        go_simp
        with_reducible rfl
      rotate_left
      · simp only [Act.put, List.setIfInBounds_toArray, List.set_cons_zero, List.set_cons_succ, i64_w, i32_w]
        rfl
      refine pure_ (i := 6) (N := some 44) (v := ?_) (a' := ?_) #[true, true, true, true, true, true, true, false, false, false] rfl rfl (any_of HT_.out (by kernel_rfl)) (fun _ _ _ h => h) (Or.inl ⟨by rfl, ?_⟩) ?_ ?_
      rotate_left
      · intro w'
        go_simp
        with_reducible rfl
      rotate_left
      · simp only [Act.put, List.setIfInBounds_toArray, List.set_cons_zero, List.set_cons_succ, i64_w, i32_w]
        rfl
      refine one_ (i := 7) (N := some 45) #[true, true, true, true, true, true, true, true, false, false] rfl rfl (one_of HT_.out (by kernel_rfl)) (by decide) (fun K hK => ?_)
      rw [if_pos (by rfl)]
      obtain ⟨q, hq⟩ : ∃ q : Nat, q = Nat.min p (m - p) := ⟨_, rfl⟩
      have hq1 : q ≤ p := by rw [hq]; exact Nat.min_le_left _ _
      have hq2 : p + q ≤ m := by have : q ≤ m - p := by rw [hq]; exact Nat.min_le_right _ _
                                 omega
      have hq3 : 1 ≤ q := by rw [hq]; exact Nat.le_min.2 ⟨by omega, by omega⟩
      have hcp := copy_x wr.drew _ gb p (m - p) (cap - p) m cap _ xs ⟨gb, 0, none⟩ p cap q x 3 (Kd.R_drew HO.out) hq2 hq (fun j hj => by
        have := (Kd.R_celln 0 HO.out (j : Int) (by omega) (by omega)).1
        rw [Int.toNat_natCast] at this
        rw [add_plain]
        show wr.cell? _ = _
        rw [this]
        unfold rdOf
        rw [Int.toNat_natCast, HL.out.2 j (by omega)])
      clear hq
      refine Lib.wp_copy_run wr.drew (.tmp 41) (.tmp 44) 25 25 rfl (.slice (some ⟨gb, p, none⟩) (m - p) (cap - p)) (.slice (some ⟨gb, 0, none⟩) p cap) ?ed ?es hcp ?_
      case ed => show Value.slice (if cap = p then some ⟨gb, 0, none⟩ else some ⟨gb, p, none⟩) (m - p) (cap - p) = _; rw [if_neg (by omega)]
      case es => rfl
      refine hK.out _ _ trivial (fun hHeld => ?_)
      clear hK K
      refine norm_ (a' := ?_) ?_ ?_
      rotate_left
      · show Act.put _ (some 45) _ = _
        simp only [Act.put, List.setIfInBounds_toArray, List.set_cons_zero, List.set_cons_succ, i64_w, i32_w]
        rfl
      have hqi : goInt q = .int .i64 (q : Int) := rfl
      refine pure_ (i := 8) (N := some 46) (v := ?_) (a' := ?_) #[true, true, true, true, true, true, true, true, true, false] rfl rfl (any_of HT_.out (by kernel_rfl)) (fun _ _ _ h => h) (Or.inl ⟨by rfl, ?_⟩) ?_ ?_
      rotate_left
      · intro w'
        go_simp
        with_reducible rfl
      rotate_left
      · simp only [Act.put, List.setIfInBounds_toArray, List.set_cons_zero, List.set_cons_succ, i64_w, i32_w]
        rfl
      refine pure_ (i := 9) (N := some 8) (v := ?_) (a' := ?_) #[true, true, true, true, true, true, true, true, true, true] rfl rfl (any_of HT_.out (by kernel_rfl)) (fun _ _ _ h => h) (Or.inl ⟨by rfl, ?_⟩) ?_ ?_
      rotate_left
      · intro w'
        go_simp
        with_reducible rfl
      rotate_left
      · simp only [Act.put, List.setIfInBounds_toArray, List.set_cons_zero, List.set_cons_succ, i64_w, i32_w]
        rfl
      refine done_ (done_of HT_.out (by kernel_rfl)) ?_
      have hs : wrap64 ((p : Int) + (q : Int)) = ((p + q : Nat) : Int) := by unfold wrap64; omega
      have HO2 := Aside0.mk (R_splice x q p xs wr.drew (Kd.R_drew HO.out))
      have HB2 := Aside0.mk (below_cells (List.replicate q (.int .i64 x)) p _ (below_drew1 HB.out) GBB.out)
      generalize wr.drew.setCells gb p (List.replicate q (.int .i64 x)) = wn at HO2 HB2 ⊢
      (try go_wp2)
      go_roundg (m - (p + q))
      case measure => omega
      case rel =>
        refine ⟨p + q, splice x q p xs, by omega, by omega, by omega, by first | rw [hs] | rw [Int.natCast_add], ⟨by rw [splice_length, HL.out.1], fun j hj => ?_⟩, HO2, HB2⟩
        rw [splice_at x q p xs j (by rw [HL.out.1]; omega)]
        by_cases c : p ≤ j ∧ j < p + q
        · rw [if_pos c]
        · rw [if_neg c]; exact HL.out.2 j (by omega)
    · have hltz : ¬ (p : Int) < (m : Int) := by omega
      go_wp2
      go_ret
      refine ⟨_, rfl, ?_, HB.out⟩
      have e : xs = List.replicate m x := by
        apply List.ext_getElem
        · rw [HL.out.1, List.length_replicate]
        · intro j h1 h2
          have := HL.out.2 j (by rw [List.length_replicate] at h2; omega)
          rw [List.getD_eq_getElem?_getD, List.getElem?_eq_getElem h1] at this
          rw [List.getElem_replicate]; exact this
      rw [← e]; exact HO.out


/-! ### impl_startsOfPasting: function 56 -/
mutual
def impl_startsOfPasting.l0 : Nat → Int → Int → Int → List Int → Int → List Int → Int → Int → Option (List Int)
  | 0, _, _, _, _, _, _, _, _ => none
  | k + 1, x1, x2, x7, x8, x9, x21, x22, x23 => if x23 < x22 then (if 0 ≤ x23 then (if x23 < (x21.length : Int) then (if x7 = 0 then (none) else ((some (([Int.tmod (wrap64 ((rd x21 x23) + 1)) x7, Int.tmod (wrap64 ((wrap64 ((rd x21 x23) + x7)) - 1)) x7] : List Int) : List Int)).bind fun y155 => (impl_startsOfPasting.l1 k x1 x2 x7 x8 (rd x21 x23) x9 x21 x22 x23 y155 (y155.length : Int) 0))) else (none)) else (none)) else (some x8)
def impl_startsOfPasting.l1 : Nat → Int → Int → Int → List Int → Int → Int → List Int → Int → Int → List Int → Int → Int → Option (List Int)
  | 0, _, _, _, _, _, _, _, _, _, _, _, _ => none
  | k + 1, x1, x2, x7, x8, x11, x12, x21, x22, x23, x38, x39, x40 => if x40 < x39 then (if 0 ≤ x40 then (if x40 < (x38.length : Int) then (if 0 ≤ (rd x38 x40) then (if (rd x38 x40) < (x8.length : Int) then (if (rd x8 (rd x38 x40)) ≥ 0 then (impl_startsOfPasting.l1 k x1 x2 x7 x8 x11 (mx x12 (wrap64 ((wrap64 ((rd x8 (rd x38 x40)) + x1)) + x2))) x21 x22 x23 x38 x39 (wrap64 (x40 + 1))) else (impl_startsOfPasting.l1 k x1 x2 x7 x8 x11 x12 x21 x22 x23 x38 x39 (wrap64 (x40 + 1)))) else (none)) else (none)) else (none)) else (none)) else (if 0 ≤ x11 then (if x11 < (x8.length : Int) then (impl_startsOfPasting.l0 k x1 x2 x7 (x8.set (x11 : Int).toNat x12) (wrap64 (x12 + x1)) x21 x22 (wrap64 (x23 + 1))) else (none)) else (none))
end
def impl_startsOfPasting.f (k : Nat) (l0 : List Int) (a1 : Int) (a2 : Int) : Option (List Int) := (slices_Repeat_int64_int64.f (([(-1)] : List Int)) (l0.length : Int)).bind fun t151 => (impl_startsOfPasting.l0 k a1 a2 (l0.length : Int) t151 0 l0 (l0.length : Int) 0)
theorem impl_startsOfPasting.mono_l : ∀ k, (∀ y0 y1 y2 y3 y4 y5 y6 y7, LeO (impl_startsOfPasting.l0 k y0 y1 y2 y3 y4 y5 y6 y7) (impl_startsOfPasting.l0 (k + 1) y0 y1 y2 y3 y4 y5 y6 y7)) ∧ (∀ y0 y1 y2 y3 y4 y5 y6 y7 y8 y9 y10 y11, LeO (impl_startsOfPasting.l1 k y0 y1 y2 y3 y4 y5 y6 y7 y8 y9 y10 y11) (impl_startsOfPasting.l1 (k + 1) y0 y1 y2 y3 y4 y5 y6 y7 y8 y9 y10 y11))
  | 0 => ⟨fun _ _ _ _ _ _ _ _ r h => by simp [impl_startsOfPasting.l0] at h, fun _ _ _ _ _ _ _ _ _ _ _ _ r h => by simp [impl_startsOfPasting.l1] at h⟩
  | k + 1 => by
    obtain ⟨ih0, ih1⟩ := impl_startsOfPasting.mono_l k
    refine ⟨?_, ?_⟩
    · intro y0 y1 y2 y3 y4 y5 y6 y7
      unfold impl_startsOfPasting.l0
      repeat' first
      | (with_reducible exact ih0 _ _ _ _ _ _ _ _)
      | (with_reducible exact ih1 _ _ _ _ _ _ _ _ _ _ _ _)
      | (with_reducible exact LeO.refl _)
      | (with_reducible exact LeO.none _)
      | (with_reducible refine LeO.ite ?_ ?_)
      | (with_reducible refine LeO.bind ?_ (fun _ => ?_))
      | exact ih0 _ _ _ _ _ _ _ _
      | exact ih1 _ _ _ _ _ _ _ _ _ _ _ _
      | exact LeO.none _
      | refine LeO.ite ?_ ?_
      | refine LeO.bind ?_ (fun _ => ?_)
    · intro y0 y1 y2 y3 y4 y5 y6 y7 y8 y9 y10 y11
      unfold impl_startsOfPasting.l1
      repeat' first
      | (with_reducible exact ih0 _ _ _ _ _ _ _ _)
      | (with_reducible exact ih1 _ _ _ _ _ _ _ _ _ _ _ _)
      | (with_reducible exact LeO.refl _)
      | (with_reducible exact LeO.none _)
      | (with_reducible refine LeO.ite ?_ ?_)
      | (with_reducible refine LeO.bind ?_ (fun _ => ?_))
      | exact ih0 _ _ _ _ _ _ _ _
      | exact ih1 _ _ _ _ _ _ _ _ _ _ _ _
      | exact LeO.none _
      | refine LeO.ite ?_ ?_
      | refine LeO.bind ?_ (fun _ => ?_)
theorem impl_startsOfPasting.mono : ∀ a0 a1 a2 k, LeO (impl_startsOfPasting.f k a0 a1 a2) (impl_startsOfPasting.f (k + 1) a0 a1 a2) := by
  intro a0 a1 a2 k
  obtain ⟨ih0, ih1⟩ := impl_startsOfPasting.mono_l k
  unfold impl_startsOfPasting.f
  repeat' first
      | (with_reducible exact ih0 _ _ _ _ _ _ _ _)
      | (with_reducible exact ih1 _ _ _ _ _ _ _ _ _ _ _ _)
      | (with_reducible exact LeO.refl _)
      | (with_reducible exact LeO.none _)
      | (with_reducible refine LeO.ite ?_ ?_)
      | (with_reducible refine LeO.bind ?_ (fun _ => ?_))
      | exact ih0 _ _ _ _ _ _ _ _
      | exact ih1 _ _ _ _ _ _ _ _ _ _ _ _
      | exact LeO.none _
      | refine LeO.ite ?_ ?_
      | refine LeO.bind ?_ (fun _ => ?_)
def impl_startsOfPasting.T7 : Bool × List (List Nat × List Nat) := (true, [([], []), ([0], [0]), ([], []), ([1, 2], [1, 2]), ([], []), ([], []), ([4, 5], [4, 5]), ([6], [6]), ([], []), ([7, 8], [7, 8]), ([3, 9], [3, 9]), ([10], [10]), ([], [])])
def impl_startsOfPasting.B7 : List Nat := [0, 1, 0, 7, 0, 0, 48, 112, 0, 496, 1023, 2047, 0]
theorem impl_startsOfPasting.tab7 : rtab .any (opsOf Try.f56 7) = impl_startsOfPasting.T7 := by kernel_rfl
theorem impl_startsOfPasting.bits7 : waitsOk impl_startsOfPasting.T7.2 impl_startsOfPasting.B7 = true := by kernel_rfl
set_option maxHeartbeats 8000000 in
set_option maxRecDepth 100000 in
theorem impl_startsOfPasting.calls (k : Nat) (A0 : Option Addr) (c0 : Nat) (l0 : List Int) (a1 : Int) (a2 : Int) (r : List Int) (w : World) (hr0 : Kd.C (Kd.int .i64) w A0 l0.length l0) (hc0 : l0.length ≤ c0) (h : impl_startsOfPasting.f k l0 a1 a2 = some r) :
    Calls Try.prog 56 #[.slice A0 l0.length c0, .int .i64 a1, .int .i64 a2] w fun e w' => ∃ v0_ : Value, e = .returned (v0_) ∧ Kd.R (Kd.int .i64) 2 w' w.heap.size (fun _ => True) v0_ r ∧ Below w.heap.size w w' := by
  have HR0 := Aside0.mk hr0
  have HC0 := Aside0.mk hc0
  clear hr0 hc0
  have HB := Aside0.mk (Below.refl w.heap.size w)
  have H : ((slices_Repeat_int64_int64.f (([(-1)] : List Int)) (l0.length : Int)).bind fun t151 => (impl_startsOfPasting.l0 k a1 a2 (l0.length : Int) t151 0 l0 (l0.length : Int) 0)) = some r := h
  clear h
  obtain ⟨y148, hy148⟩ : ∃ y_ : List Int, y_ = (([(-1)] : List Int)) := ⟨_, rfl⟩
  replace H : ((slices_Repeat_int64_int64.f y148 (l0.length : Int)).bind fun t151 => (impl_startsOfPasting.l0 k a1 a2 (l0.length : Int) t151 0 l0 (l0.length : Int) 0)) = some r := by first | (rw [hy148]; with_reducible exact H) | (have H2_ := (Option.bind_some _ _).symm.trans H; rw [hy148]; with_reducible exact H2_) | (have H2_ := (Option.bind_some _ _).symm.trans H; with_reducible exact H2_) | with_reducible exact H | (rw [hy148]; exact H) | exact H
  have Ny148 := Aside0.mk hy148
  clear hy148
  replace H := Option.bind_eq_some_iff.mp H
  obtain ⟨t151, A40, H⟩ := H
  replace H : (impl_startsOfPasting.l0 k a1 a2 (l0.length : Int) t151 0 l0 (l0.length : Int) 0) = some r := H
  have A4 := Aside0.mk A40
  clear A40
  have H' := Aside0.mk H
  clear H
  go_enter Try.func56, Try.ntmps56
  go_wp2_with (first | ((with_reducible refine gate_dst (N := 17) rfl ?_); refine Kd.R_lit (Kd.int .i64) _ 2 ?hg (N := 17) ?hd (xs := ([(-1)] : List Int)) (inner := [.int .i64 (-1)]) (ok := fun _ => True) (okp := fun _ => True) ?hr ?hp (fun _ hk => hk) trivial (Below.refl _ _) (Nat.le_refl _) (by simp) ?_; (case hd => rfl); (case hg => rfl); (case hr => first | (go_simp; done) | (go_simp; rfl)); (case hp => exact (Reps.one (show Kd.M (Kd.int .i64) _ _ _ (-1) [.int .i64 (-1)] from rfl) (Reps.none _ _))); intro v149 w5 ho6 hb hg_ hnew_; clear hg_ hnew_; (first | rw [← Ny148.out] at ho6 | (simp only [Int.reduceToNat] at ho6; rw [← Ny148.out] at ho6)); have n0_ := Aside0.mk (Kd.R_lower ho6 (below_size (by repeat (first | (with_reducible first | exact HB.out | apply below_alloc | apply pw_below_drewN | apply below_drew1) | exact HB.out)))); have n1_ := Aside0.mk (below_step (by repeat (first | (with_reducible first | exact HB.out | apply below_alloc | apply pw_below_drewN | apply below_drew1) | exact HB.out)) hb); clear HB; have HO150 := n0_; have HB := n1_; clear n0_ n1_; clear hb ho6; obtain ⟨Ao7, co7, eo7⟩ := Kd.R_slice HO150.out; subst eo7) | ((with_reducible refine gate_callee (f := 75) rfl ?_); refine goesL_ (some 20) rfl rfl Try.func75 (by kernel_rfl) rfl #[.slice Ao7 y148.length co7, .int .i64 (l0.length : Int)] rfl (by (try simp only [List.map_toArray, List.map_cons, List.map_nil]); first | done | rfl | (simp only [List.length_drop, List.length_take]; rfl)) ?_; (with_reducible refine (slices_Repeat_int64_int64.calls _ _ y148 (l0.length : Int) t151 _ ?side1 ?side2 A4.out).mono ?_); (case side1 => repeat (first | exact (Kd.R_reads' HO150.out).2.2 | (with_reducible refine Kd.C_alloc ?_ _) | (with_reducible refine Kd.C_drewN ?_ _) | (with_reducible refine Kd.C_drew ?_))); (case side2 => exact (Kd.R_reads' HO150.out).2.1); rintro e w8 ⟨v152, rfl, ho0, hb⟩; refine ⟨_, rfl, ?_⟩; have n0_ := Aside0.mk (Kd.R_elder' (by (with_reducible repeat (first | apply Kd.R_alloc | apply Kd.R_drewN | apply Kd.R_drew)); exact HO150.out) (Kd.R_base ho0) hb); have n1_ := Aside0.mk (Kd.R_lower (Kd.R_new' ho0 (Kd.R_lt (by (with_reducible repeat (first | apply Kd.R_alloc | apply Kd.R_drewN | apply Kd.R_drew)); exact HO150.out))) (below_size (by repeat (first | (with_reducible first | exact HB.out | apply below_alloc | apply pw_below_drewN | apply below_drew1) | exact HB.out)))); have n2_ := Aside0.mk (below_step (by repeat (first | (with_reducible first | exact HB.out | apply below_alloc | apply pw_below_drewN | apply below_drew1) | exact HB.out)) hb); clear HO150; clear HB; have HO150 := n0_; have HO153 := n1_; have HB := n2_; clear n0_ n1_ n2_; (try clear hb); (try clear hb2); (try clear hk); (try clear hi); (try clear ho0)))
  go_loopg [9, 23] k (fun kq v9 v23 w' => ∃ (x8_1 : List Int) (x9_1 : Int) (x23_1 : Int), v9 = .int .i64 x9_1 ∧ v23 = .int .i64 x23_1 ∧ Aside0 (impl_startsOfPasting.l0 kq a1 a2 (l0.length : Int) x8_1 x9_1 l0 (l0.length : Int) x23_1 = some r) ∧ Aside0 (kq ≤ k) ∧ Aside0 (Kd.R (Kd.int .i64) 2 w' w.heap.size (fun _ => True) v152 x8_1) ∧ Aside0 (Below w.heap.size w w'))
  case atStart => exact ⟨(t151), (0), (0), (by first | rfl | (simp; done) | (simp [*]; done)), (by first | rfl | (simp; done) | (simp [*]; done)), H', ⟨Nat.le_refl _⟩, ⟨by (with_reducible repeat (first | apply Kd.R_alloc | apply Kd.R_drewN | apply Kd.R_drew)); exact Kd.R_mono HO153.out (fun _ hk => trivial)⟩, ⟨by repeat (first | (with_reducible first | exact HB.out | apply below_alloc | apply pw_below_drewN | apply below_drew1) | exact HB.out)⟩⟩
  case round =>
    clear H'
    try clear p2
    try clear c5
    try clear c7
    obtain ⟨x8_1, x9_1, x23_1, rfl, rfl, HA, HK1, HO_8, HB⟩ := hrel
    cases gk with
    | zero => exact absurd HA.out (by simp [impl_startsOfPasting.l0])
    | succ k1 =>
      have H := HA.out
      clear HA
      simp only [impl_startsOfPasting.l0] at H
      by_cases c9 : x23_1 < (l0.length : Int)
      · rw [if_pos c9] at H
        have c9b0 : decide (x23_1 < (l0.length : Int)) = true := decide_eq_true c9
        clear c9
        by_cases c10 : 0 ≤ x23_1
        · rw [if_pos c10] at H
          have c10b0 : decide (0 ≤ x23_1) = true := decide_eq_true c10
          clear c10
          by_cases c11 : x23_1 < (l0.length : Int)
          · rw [if_pos c11] at H
            have c11b0 : decide (x23_1 < (l0.length : Int)) = true := decide_eq_true c11
            clear c11
            by_cases c12 : (l0.length : Int) = 0
            · rw [if_pos c12] at H
              exact absurd H (by simp)
            · rw [if_neg c12] at H
              have c12b0 : ((l0.length : Int) == 0) = false := beq_eq_false_iff_ne.mpr c12
              have c12b1 : ((l0.length : Int) != 0) = true := bne_iff_ne.mpr c12
              have c12b2 : ¬ (l0 = []) := fun h_ => c12 (by rw [h_]; rfl)
              obtain ⟨y155, hy155⟩ : ∃ y_ : List Int, y_ = (([Int.tmod (wrap64 ((rd l0 x23_1) + 1)) (l0.length : Int), Int.tmod (wrap64 ((wrap64 ((rd l0 x23_1) + (l0.length : Int))) - 1)) (l0.length : Int)] : List Int)) := ⟨_, rfl⟩
              replace H : (impl_startsOfPasting.l1 k1 a1 a2 (l0.length : Int) x8_1 (rd l0 x23_1) x9_1 l0 (l0.length : Int) x23_1 y155 (y155.length : Int) 0) = some r := by first | (rw [hy155]; with_reducible exact H) | (have H2_ := (Option.bind_some _ _).symm.trans H; rw [hy155]; with_reducible exact H2_) | (have H2_ := (Option.bind_some _ _).symm.trans H; with_reducible exact H2_) | with_reducible exact H | (rw [hy155]; exact H) | exact H
              have Ny155 := Aside0.mk hy155
              clear hy155
              have H' := Aside0.mk H
              clear H
              have p154 : 0 ≤ (x23_1 : Int) := of_decide_eq_true (by first | (with_reducible assumption) | assumption)
              have q154 : x23_1 < (l0.length : Int) := of_decide_eq_true (by first | (with_reducible assumption) | assumption)
              obtain ⟨ad154, e154, hx154_0⟩ := Kd.at_int HR0.out x23_1 p154 q154
              cases e154
              replace hx154_0 := (HB.out.cell (World.block_lt_of_cell? w _ hx154_0)).trans hx154_0
              replace p154 := eq_true p154
              replace q154 := eq_true q154
              try go_wp2
              have n0_ := Aside0.mk (Kd.R_drew HO_8.out)
              have n1_ := Aside0.mk (below_drew1 HB.out)
              clear HO_8
              clear HB
              have HO_8 := n0_
              have HB := n1_
              clear n0_ n1_
              refine start_ (n := 13) (S := fun w' => True) (ds := []) #[false, false, false, false, false, false, false, false, false, false, false, false, false] (by kernel_rfl) rfl rfl trivial (fun hHeld => ?_); refine with_tabW impl_startsOfPasting.tab7 impl_startsOfPasting.bits7 (fun HT_ HW_ => ?_)
              generalize wr.drew = w13 at HO_8 HB hHeld ⊢
              refine pure_ (i := 0) (N := some 28) (v := ?_) (a' := ?_) #[true, false, false, false, false, false, false, false, false, false, false, false, false] rfl rfl (any_of HT_.out (by kernel_rfl)) (fun _ _ _ h => h) (Or.inl ⟨by rfl, ?_⟩) ?_ ?_
              rotate_left
              · intro w'
                go_simp
                with_reducible rfl
              rotate_left
              · simp only [Act.put, List.setIfInBounds_toArray, List.set_cons_zero, List.set_cons_succ, i64_w, i32_w]
                rfl
              refine pure_ (i := 1) (N := some 29) (v := ?_) (a' := ?_) #[true, true, false, false, false, false, false, false, false, false, false, false, false] rfl rfl (any_of HT_.out (by kernel_rfl)) (fun _ _ _ h => h) (Or.inl ⟨by rfl, ?_⟩) ?_ ?_
              rotate_left
              · intro w'
                go_simp
                with_reducible rfl
              rotate_left
              · simp only [Act.put, List.setIfInBounds_toArray, List.set_cons_zero, List.set_cons_succ, i64_w, i32_w]
                rfl
              refine pure_ (i := 2) (N := some 30) (v := ?_) (a' := ?_) #[true, true, true, false, false, false, false, false, false, false, false, false, false] rfl rfl (any_of HT_.out (by kernel_rfl)) (fun _ _ _ h => h) (Or.inl ⟨by rfl, ?_⟩) ?_ ?_
              rotate_left
              · intro w'
                go_simp
                with_reducible rfl
              rotate_left
              · simp only [Act.put, List.setIfInBounds_toArray, List.set_cons_zero, List.set_cons_succ, i64_w, i32_w]
                rfl
              refine pure_ (i := 3) (N := some 31) (v := ?_) (a' := ?_) #[true, true, true, true, false, false, false, false, false, false, false, false, false] rfl rfl (any_of HT_.out (by kernel_rfl)) (fun _ _ _ h => h) (Or.inl ⟨by rfl, ?_⟩) ?_ ?_
              rotate_left
              · intro w'
                go_simp
                with_reducible rfl
              rotate_left
              · simp only [Act.put, List.setIfInBounds_toArray, List.set_cons_zero, List.set_cons_succ, i64_w, i32_w]
                rfl
              refine pure_ (i := 4) (N := some 32) (v := ?_) (a' := ?_) #[true, true, true, true, true, false, false, false, false, false, false, false, false] rfl rfl (any_of HT_.out (by kernel_rfl)) (fun _ _ _ h => h) (Or.inl ⟨by rfl, ?_⟩) ?_ ?_
              rotate_left
              · intro w'
                go_simp
                with_reducible rfl
              rotate_left
              · simp only [Act.put, List.setIfInBounds_toArray, List.set_cons_zero, List.set_cons_succ, i64_w, i32_w]
                rfl
              refine pure_ (i := 5) (N := some 33) (v := ?_) (a' := ?_) #[true, true, true, true, true, true, false, false, false, false, false, false, false] rfl rfl (any_of HT_.out (by kernel_rfl)) (fun _ _ _ h => h) (Or.inl ⟨by rfl, ?_⟩) ?_ ?_
              rotate_left
              · intro w'
                go_simp
                with_reducible rfl
              rotate_left
              · simp only [Act.put, List.setIfInBounds_toArray, List.set_cons_zero, List.set_cons_succ, i64_w, i32_w]
                rfl
              refine pure_ (i := 6) (N := some 34) (v := ?_) (a' := ?_) #[true, true, true, true, true, true, true, false, false, false, false, false, false] rfl rfl (any_of HT_.out (by kernel_rfl)) (fun _ _ _ h => h) (Or.inl ⟨by rfl, ?_⟩) ?_ ?_
              rotate_left
              · intro w'
                go_simp
                with_reducible rfl
              rotate_left
              · simp only [Act.put, List.setIfInBounds_toArray, List.set_cons_zero, List.set_cons_succ, i64_w, i32_w]
                rfl
              refine pure_ (i := 7) (N := some 35) (v := ?_) (a' := ?_) #[true, true, true, true, true, true, true, true, false, false, false, false, false] rfl rfl (any_of HT_.out (by kernel_rfl)) (fun _ _ _ h => h) (Or.inl ⟨by rfl, ?_⟩) ?_ ?_
              rotate_left
              · intro w'
                go_simp
                with_reducible rfl
              rotate_left
              · simp only [Act.put, List.setIfInBounds_toArray, List.set_cons_zero, List.set_cons_succ, i64_w, i32_w]
                rfl
              refine pure_ (i := 8) (N := some 36) (v := ?_) (a' := ?_) #[true, true, true, true, true, true, true, true, true, false, false, false, false] rfl rfl (any_of HT_.out (by kernel_rfl)) (fun _ _ _ h => h) (Or.inl ⟨by rfl, ?_⟩) ?_ ?_
              rotate_left
              · intro w'
                go_simp
                with_reducible rfl
              rotate_left
              · simp only [Act.put, List.setIfInBounds_toArray, List.set_cons_zero, List.set_cons_succ, i64_w, i32_w]
                rfl
              refine pure_ (i := 9) (N := some 37) (v := ?_) (a' := ?_) #[true, true, true, true, true, true, true, true, true, true, false, false, false] rfl rfl (any_of HT_.out (by kernel_rfl)) (fun _ _ _ h => h) (Or.inl ⟨by rfl, ?_⟩) ?_ ?_
              rotate_left
              · intro w'
                go_simp
                with_reducible rfl
              rotate_left
              · simp only [Act.put, List.setIfInBounds_toArray, List.set_cons_zero, List.set_cons_succ, i64_w, i32_w]
                rfl
              refine pure_ (i := 12) (N := some 40) (v := ?_) (a' := ?_) #[true, true, true, true, true, true, true, true, true, true, false, false, true] rfl rfl (any_of HT_.out (by kernel_rfl)) (fun _ _ _ h => h) (Or.inl ⟨by rfl, ?_⟩) ?_ ?_
              rotate_left
              · intro w'
                go_simp
                with_reducible rfl
              rotate_left
              · simp only [Act.put, List.setIfInBounds_toArray, List.set_cons_zero, List.set_cons_succ, i64_w, i32_w]
                rfl
              refine one_ (i := 10) (N := some 38) #[true, true, true, true, true, true, true, true, true, true, true, false, true] rfl rfl (one_of HT_.out (by kernel_rfl)) (by decide) (fun K hK => ?_)
              refine Kd.R_lit_step (Kd.int .i64) _ 2 ?hg (N := 38) ?hd (xs := ([Int.tmod (wrap64 ((rd l0 x23_1) + 1)) (l0.length : Int), Int.tmod (wrap64 ((wrap64 ((rd l0 x23_1) + (l0.length : Int))) - 1)) (l0.length : Int)] : List Int)) (inner := [.int .i64 (Int.tmod (wrap64 ((rd l0 x23_1) + 1)) (l0.length : Int)), .int .i64 (Int.tmod (wrap64 ((wrap64 ((rd l0 x23_1) + (l0.length : Int))) - 1)) (l0.length : Int))]) (ok := fun _ => True) (okp := fun _ => True) ?hr ?hp (fun _ hk => hk) trivial (Below.refl _ _) (Nat.le_refl _) (by simp) ?_; (case hd => rfl); (case hg => rfl); (case hr => first | (go_simp; done) | (go_simp; rfl)); (case hp => exact (Reps.one (show Kd.M (Kd.int .i64) _ _ _ (Int.tmod (wrap64 ((rd l0 x23_1) + 1)) (l0.length : Int)) [.int .i64 (Int.tmod (wrap64 ((rd l0 x23_1) + 1)) (l0.length : Int))] from rfl) (Reps.one (show Kd.M (Kd.int .i64) _ _ _ (Int.tmod (wrap64 ((wrap64 ((rd l0 x23_1) + (l0.length : Int))) - 1)) (l0.length : Int)) [.int .i64 (Int.tmod (wrap64 ((wrap64 ((rd l0 x23_1) + (l0.length : Int))) - 1)) (l0.length : Int))] from rfl) (Reps.none _ _))))
              intro v156 w14 ho15 hb hg_ hnew_
              clear hg_ hnew_
              (first | rw [← Ny155.out] at ho15 | (simp only [Int.reduceToNat] at ho15; rw [← Ny155.out] at ho15))
              have n0_ := Aside0.mk (Kd.R_elder' (by (with_reducible repeat (first | apply Kd.R_alloc | apply Kd.R_drewN | apply Kd.R_drew)); exact HO_8.out) (Kd.R_base ho15) hb)
              have n1_ := Aside0.mk (Kd.R_lower (Kd.R_new' ho15 (Kd.R_lt (by (with_reducible repeat (first | apply Kd.R_alloc | apply Kd.R_drewN | apply Kd.R_drew)); exact HO_8.out))) (below_size (by repeat (first | (with_reducible first | exact HB.out | apply below_alloc | apply pw_below_drewN | apply below_drew1) | exact HB.out))))
              have n2_ := Aside0.mk (below_step (by repeat (first | (with_reducible first | exact HB.out | apply below_alloc | apply pw_below_drewN | apply below_drew1) | exact HB.out)) hb)
              clear HO_8
              clear HB
              have HO_8 := n0_
              have HO157 := n1_
              have HB := n2_
              clear n0_ n1_ n2_
              clear hb ho15
              obtain ⟨Ao16, co16, eo16⟩ := Kd.R_slice HO157.out
              (first | subst eo16 | (injection eo16 with f1_ f2_ f3_; have f4_ := f1_.symm; have f5_ := f3_.symm; clear f1_ f2_ f3_; subst f4_; subst f5_))
              refine hK.out _ _ trivial (fun hHeld => ?_)
              clear hK K
              refine norm_ (a' := ?_) ?_ ?_
              rotate_left
              · show Act.put _ (some 38) _ = _
                simp only [Act.put, List.setIfInBounds_toArray, List.set_cons_zero, List.set_cons_succ, i64_w, i32_w]
                rfl
              refine pure_ (i := 11) (N := some 39) (v := ?_) (a' := ?_) #[true, true, true, true, true, true, true, true, true, true, true, true, true] rfl rfl (any_of HT_.out (by kernel_rfl)) (fun _ _ _ h => h) (Or.inl ⟨by rfl, ?_⟩) ?_ ?_
              rotate_left
              · intro w'
                go_simp
                with_reducible rfl
              rotate_left
              · simp only [Act.put, List.setIfInBounds_toArray, List.set_cons_zero, List.set_cons_succ, i64_w, i32_w]
                rfl
              refine done_ (done_of HT_.out (by kernel_rfl)) ?_
              try go_wp2
              go_loopg [12, 40] k1 (fun kq v12 v40 w' => ∃ (x12_2 : Int) (x40_2 : Int), v12 = .int .i64 x12_2 ∧ v40 = .int .i64 x40_2 ∧ Aside0 (impl_startsOfPasting.l1 kq a1 a2 (l0.length : Int) x8_1 (rd l0 x23_1) x12_2 l0 (l0.length : Int) x23_1 y155 (y155.length : Int) x40_2 = some r) ∧ Aside0 (kq ≤ k1) ∧ Aside0 (Kd.R (Kd.int .i64) 2 w' w.heap.size (fun k_ => some k_ ≠ ((.slice Ao16 y155.length co16) : Value).ownBlock) v152 x8_1) ∧ Aside0 (Kd.R (Kd.int .i64) 2 w' w.heap.size (fun k_ => some k_ ≠ (v152 : Value).ownBlock) (.slice Ao16 y155.length co16) y155) ∧ Aside0 (Below w.heap.size w w'))
              case atStart => exact ⟨(x9_1), (0), (by first | rfl | (simp; done) | (simp [*]; done)), (by first | rfl | (simp; done) | (simp [*]; done)), H', ⟨Nat.le_refl _⟩, ⟨by (with_reducible repeat (first | apply Kd.R_alloc | apply Kd.R_drewN | apply Kd.R_drew)); exact Kd.R_mono HO_8.out (fun _ hk => hk.2)⟩, ⟨by (with_reducible repeat (first | apply Kd.R_alloc | apply Kd.R_drewN | apply Kd.R_drew)); exact Kd.R_mono HO157.out (fun _ hk => hk.2)⟩, ⟨by repeat (first | (with_reducible first | exact HB.out | apply below_alloc | apply pw_below_drewN | apply below_drew1) | exact HB.out)⟩⟩
              case round =>
                clear H'
                try clear c1
                try clear p1
                try clear q1
                try clear hx1
                try clear p2
                try clear c5
                try clear p6
                try clear c7
                try clear c9
                try clear c9b0
                try clear c10
                try clear c10b0
                try clear c11
                try clear c11b0
                try clear c12
                try clear c12b0
                try clear c12b1
                try clear c12b2
                try clear p15
                try clear q15
                try clear hx15
                try clear hx154_0
                try clear p154
                try clear p2
                try clear q154
                obtain ⟨x12_2, x40_2, rfl, rfl, HA, HK2, HO_8, HO_38, HB⟩ := hrel
                cases gk with
                | zero => exact absurd HA.out (by simp [impl_startsOfPasting.l1])
                | succ k2 =>
                  have H := HA.out
                  clear HA
                  simp only [impl_startsOfPasting.l1] at H
                  by_cases c17 : x40_2 < (y155.length : Int)
                  · rw [if_pos c17] at H
                    have c17b0 : decide (x40_2 < (y155.length : Int)) = true := decide_eq_true c17
                    clear c17
                    by_cases c18 : 0 ≤ x40_2
                    · rw [if_pos c18] at H
                      have c18b0 : decide (0 ≤ x40_2) = true := decide_eq_true c18
                      clear c18
                      by_cases c19 : x40_2 < (y155.length : Int)
                      · rw [if_pos c19] at H
                        have c19b0 : decide (x40_2 < (y155.length : Int)) = true := decide_eq_true c19
                        clear c19
                        by_cases c20 : 0 ≤ (rd y155 x40_2)
                        · rw [if_pos c20] at H
                          have c20b0 : decide (0 ≤ (rd y155 x40_2)) = true := decide_eq_true c20
                          clear c20
                          by_cases c21 : (rd y155 x40_2) < (x8_1.length : Int)
                          · rw [if_pos c21] at H
                            have c21b0 : decide ((rd y155 x40_2) < (x8_1.length : Int)) = true := decide_eq_true c21
                            clear c21
                            by_cases c22 : (rd x8_1 (rd y155 x40_2)) ≥ 0
                            · rw [if_pos c22] at H
                              have c22b0 : decide (0 ≤ (rd x8_1 (rd y155 x40_2))) = true := decide_eq_true c22
                              clear c22
                              obtain ⟨ji23, hji23⟩ : ∃ j_ : Int, (mx x12_2 (wrap64 ((wrap64 ((rd x8_1 (rd y155 x40_2)) + a1)) + a2))) = j_ := ⟨_, rfl⟩
                              replace H : (impl_startsOfPasting.l1 k2 a1 a2 (l0.length : Int) x8_1 (rd l0 x23_1) ji23 l0 (l0.length : Int) x23_1 y155 (y155.length : Int) (wrap64 (x40_2 + 1))) = some r := by first | (rw [hji23] at H; exact H) | (simp only [hji23] at H ⊢; exact H)
                              have hji23_ : (if x12_2 < (wrap64 ((wrap64 ((rd x8_1 (rd y155 x40_2)) + a1)) + a2)) then (wrap64 ((wrap64 ((rd x8_1 (rd y155 x40_2)) + a1)) + a2)) else x12_2) = ji23 := hji23
                              have H' := Aside0.mk H
                              clear H
                              have p158 : 0 ≤ (x40_2 : Int) := of_decide_eq_true (by first | (with_reducible assumption) | assumption)
                              have q158 : x40_2 < (y155.length : Int) := of_decide_eq_true (by first | (with_reducible assumption) | assumption)
                              obtain ⟨ad158, e158, hx158_0⟩ := Kd.at_int (Kd.R_reads' HO_38.out).2.2 x40_2 p158 q158
                              cases e158
                              replace p158 := eq_true p158
                              replace q158 := eq_true q158
                              obtain ⟨Ao24, co24, eo24⟩ := Kd.R_slice HO_8.out
                              subst eo24
                              have p159 : 0 ≤ ((rd y155 x40_2) : Int) := of_decide_eq_true (by first | (with_reducible assumption) | assumption)
                              have q159 : (rd y155 x40_2) < (x8_1.length : Int) := of_decide_eq_true (by first | (with_reducible assumption) | assumption)
                              obtain ⟨ad159, e159, hx159_0⟩ := Kd.at_int (Kd.R_reads' HO_8.out).2.2 (rd y155 x40_2) p159 q159
                              cases e159
                              replace p159 := eq_true p159
                              replace q159 := eq_true q159
                              have p160 : 0 ≤ ((rd y155 x40_2) : Int) := of_decide_eq_true (by first | (with_reducible assumption) | assumption)
                              have q160 : (rd y155 x40_2) < (x8_1.length : Int) := of_decide_eq_true (by first | (with_reducible assumption) | assumption)
                              obtain ⟨ad160, e160, hx160_0⟩ := Kd.at_int (Kd.R_reads' HO_8.out).2.2 (rd y155 x40_2) p160 q160
                              obtain rfl : ad159 = ad160 := (by injection e160)
                              replace p160 := eq_true p160
                              replace q160 := eq_true q160
                              go_wp2
                              go_roundg k2
                              case measure => have := HK1.out; have := HK2.out; omega
                              case rel => exact ⟨(ji23), (wrap64 (x40_2 + 1)), (by first | rfl | (simp; done) | (simp only [← hji23] <;> (first | rfl | simp)) | (simp [*]; done)), (by first | rfl | (simp; done) | (simp [*]; done)), H', ⟨by have := HK1.out; have := HK2.out; omega⟩, ⟨by (with_reducible repeat (first | apply Kd.R_alloc | apply Kd.R_drewN | apply Kd.R_drew)); exact HO_8.out⟩, ⟨by (with_reducible repeat (first | apply Kd.R_alloc | apply Kd.R_drewN | apply Kd.R_drew)); exact HO_38.out⟩, ⟨by repeat (first | (with_reducible first | exact HB.out | apply below_alloc | apply pw_below_drewN | apply below_drew1) | exact HB.out)⟩⟩
                            · rw [if_neg c22] at H
                              have c22b0 : decide (0 ≤ (rd x8_1 (rd y155 x40_2))) = false := decide_eq_false c22
                              clear c22
                              have H' := Aside0.mk H
                              clear H
                              have p158 : 0 ≤ (x40_2 : Int) := of_decide_eq_true (by first | (with_reducible assumption) | assumption)
                              have q158 : x40_2 < (y155.length : Int) := of_decide_eq_true (by first | (with_reducible assumption) | assumption)
                              obtain ⟨ad158, e158, hx158_0⟩ := Kd.at_int (Kd.R_reads' HO_38.out).2.2 x40_2 p158 q158
                              cases e158
                              replace p158 := eq_true p158
                              replace q158 := eq_true q158
                              obtain ⟨Ao25, co25, eo25⟩ := Kd.R_slice HO_8.out
                              subst eo25
                              have p159 : 0 ≤ ((rd y155 x40_2) : Int) := of_decide_eq_true (by first | (with_reducible assumption) | assumption)
                              have q159 : (rd y155 x40_2) < (x8_1.length : Int) := of_decide_eq_true (by first | (with_reducible assumption) | assumption)
                              obtain ⟨ad159, e159, hx159_0⟩ := Kd.at_int (Kd.R_reads' HO_8.out).2.2 (rd y155 x40_2) p159 q159
                              cases e159
                              replace p159 := eq_true p159
                              replace q159 := eq_true q159
                              go_wp2
                              go_roundg k2
                              case measure => have := HK1.out; have := HK2.out; omega
                              case rel => exact ⟨(x12_2), (wrap64 (x40_2 + 1)), (by first | rfl | (simp; done) | (simp [*]; done)), (by first | rfl | (simp; done) | (simp [*]; done)), H', ⟨by have := HK1.out; have := HK2.out; omega⟩, ⟨by (with_reducible repeat (first | apply Kd.R_alloc | apply Kd.R_drewN | apply Kd.R_drew)); exact HO_8.out⟩, ⟨by (with_reducible repeat (first | apply Kd.R_alloc | apply Kd.R_drewN | apply Kd.R_drew)); exact HO_38.out⟩, ⟨by repeat (first | (with_reducible first | exact HB.out | apply below_alloc | apply pw_below_drewN | apply below_drew1) | exact HB.out)⟩⟩
                          · rw [if_neg c21] at H
                            exact absurd H (by simp)
                        · rw [if_neg c20] at H
                          exact absurd H (by simp)
                      · rw [if_neg c19] at H
                        exact absurd H (by simp)
                    · rw [if_neg c18] at H
                      exact absurd H (by simp)
                  · rw [if_neg c17] at H
                    have c17b0 : decide (x40_2 < (y155.length : Int)) = false := decide_eq_false c17
                    clear c17
                    by_cases c26 : 0 ≤ (rd l0 x23_1)
                    · rw [if_pos c26] at H
                      have c26b0 : decide (0 ≤ (rd l0 x23_1)) = true := decide_eq_true c26
                      clear c26
                      by_cases c27 : (rd l0 x23_1) < (x8_1.length : Int)
                      · rw [if_pos c27] at H
                        have c27b0 : decide ((rd l0 x23_1) < (x8_1.length : Int)) = true := decide_eq_true c27
                        clear c27
                        obtain ⟨y161, hy161⟩ : ∃ y_ : List Int, y_ = (x8_1.set ((rd l0 x23_1) : Int).toNat x12_2) := ⟨_, rfl⟩
                        replace H : (impl_startsOfPasting.l0 k2 a1 a2 (l0.length : Int) y161 (wrap64 (x12_2 + a1)) l0 (l0.length : Int) (wrap64 (x23_1 + 1))) = some r := by first | (rw [hy161]; with_reducible exact H) | (have H2_ := (Option.bind_some _ _).symm.trans H; rw [hy161]; with_reducible exact H2_) | (have H2_ := (Option.bind_some _ _).symm.trans H; with_reducible exact H2_) | with_reducible exact H | (rw [hy161]; exact H) | exact H
                        have Ny161 := Aside0.mk hy161
                        clear hy161
                        have H' := Aside0.mk H
                        clear H
                        have p28 : 0 ≤ ((rd l0 x23_1) : Int) := of_decide_eq_true (by first | (with_reducible assumption) | assumption)
                        have q28 : ((rd l0 x23_1) : Int) < ((x8_1.length : Int) : Int) := of_decide_eq_true (by first | (with_reducible assumption) | assumption)
                        obtain ⟨go28, co28, eo28, gb28, gl28, cl28, HG28⟩ := Kd.R_form HO_8.out (by omega)
                        (first | cases eo28 | (injection eo28 with ea_ en_ ec_; (first | subst ea_ | (injection ea_ with ea_; subst ea_)); subst ec_; clear en_))
                        have GB28 := Aside0.mk gb28
                        have GG28 := Aside0.mk HG28
                        clear gb28 gl28 HG28
                        obtain ⟨hx28_0, hf28_0⟩ := Kd.R_celln 0 HO_8.out ((rd l0 x23_1) : Int) p28 q28
                        replace p28 := eq_true p28
                        replace q28 := eq_true q28
                        have HP29 := Kd.R_putg HO_8.out ((rd l0 x23_1) : Int) x12_2
                        go_wp2_with (first | ((with_reducible refine gate_store (t := 2) (p := 66) rfl ?_); refine store_event (t := 2) (p := 66) (v := ?vo_w30) (w1 := (wr.setCell ⟨go28, ((rd l0 x23_1) : Int).toNat, none⟩ (.int .i64 x12_2))) ?hg ?ho ?hn ?hr ?_; (case ho => rfl); (case hg => rfl); (case hn => rfl); (case hr => first | (go_simp; done) | (go_simp; rfl)); intro w30 hw; have hg : wr.grownBy w30 (some go28) := (by rw [hw]; exact HP29.2); have hp_ : Kd.R (Kd.int .i64) 2 w30 w.heap.size (fun k_ => some k_ ≠ (.slice Ao16 y155.length co16 : Value).ownBlock) (.slice (some ⟨go28, 0, none⟩) x8_1.length co28) y161 := (by rw [hw, Ny161.out]; exact HP29.1); clear HP29; have n0_ := Aside0.mk (hp_); have n1_ := Aside0.mk (Kd.R_after (v := (.slice (some ⟨go28, 0, none⟩) x8_1.length co28)) (v1 := (.slice (some ⟨go28, 0, none⟩) x8_1.length co28)) (ok := (fun _ => True)) (by (with_reducible repeat (first | apply Kd.R_alloc | apply Kd.R_drewN | apply Kd.R_drew)); exact Kd.R_mono HO_38.out (fun _ hk => ⟨trivial, hk⟩)) hg (.inl rfl)); have n2_ := Aside0.mk ((by rw [hw]; exact below_set (HB.out) GB28.out : Below w.heap.size w w30)); clear HO_8; clear HO_38; clear HB; have HO_8 := n0_; have HO_38 := n1_; have HB := n2_; clear n0_ n1_ n2_; clear hg hw hp_))
                        go_roundg k2
                        case measure => have := HK1.out; have := HK2.out; omega
                        case rel => exact ⟨(y161), (wrap64 (x12_2 + a1)), (wrap64 (x23_1 + 1)), (by first | rfl | (simp; done) | (simp [*]; done)), (by first | rfl | (simp; done) | (simp [*]; done)), H', ⟨by have := HK1.out; have := HK2.out; omega⟩, ⟨by (with_reducible repeat (first | apply Kd.R_alloc | apply Kd.R_drewN | apply Kd.R_drew)); exact Kd.R_mono HO_8.out (fun _ hk => trivial)⟩, ⟨by repeat (first | (with_reducible first | exact HB.out | apply below_alloc | apply pw_below_drewN | apply below_drew1) | exact HB.out)⟩⟩
                      · rw [if_neg c27] at H
                        exact absurd H (by simp)
                    · rw [if_neg c26] at H
                      exact absurd H (by simp)
          · rw [if_neg c11] at H
            exact absurd H (by simp)
        · rw [if_neg c10] at H
          exact absurd H (by simp)
      · rw [if_neg c9] at H
        have c9b0 : decide (x23_1 < (l0.length : Int)) = false := decide_eq_false c9
        clear c9
        obtain rfl := Option.some.inj H
        go_wp2
        go_ret
        exact ⟨_, by first | rfl | (simp [errW_none, errW_some] <;> rfl) | (simp [*, errW_none, errW_some] <;> rfl), by (with_reducible repeat (first | apply Kd.R_alloc | apply Kd.R_drewN | apply Kd.R_drew)); exact HO_8.out, by repeat (first | (with_reducible first | exact HB.out | apply below_alloc | apply pw_below_drewN | apply below_drew1) | exact HB.out)⟩

/-! ### slices_Max_int64_int64: function 69 -/
def slices_Max_int64_int64.f (l0 : List Int) : Option (Int) := if 0 < l0.length then some (Lib.maxOf l0) else none
set_option maxHeartbeats 1000000 in
theorem slices_Max_int64_int64.calls (A0 : Option Addr) (c0 : Nat) (l0 : List Int) (r : Int) (w : World) (hr0 : Kd.C (Kd.int .i64) w A0 l0.length l0) (hc0 : l0.length ≤ c0) (h : slices_Max_int64_int64.f l0 = some r) :
    Calls Try.prog 69 #[.slice A0 l0.length c0] w fun e w' => e = .returned (.int .i64 r) ∧ Drawn0 w w' := by
  unfold slices_Max_int64_int64.f at h
  by_cases hp : 0 < l0.length
  case neg => rw [if_neg hp] at h; exact absurd h (by simp)
  rw [if_pos hp] at h
  have HE := Aside0.mk (Option.some.inj h)
  clear h
  obtain ⟨ad, hA, hx⟩ := Kd.at_int hr0 0 (by omega) (by omega)
  cases hA
  have hx0 : w.cell? ad = some (.int .i64 (rd l0 0)) := by simpa [Addr.add] using hx
  have h1 : ¬ ((l0.length : Int) < 1) := by omega
  have hmax := Kd.C_max hr0
  have HR := Aside0.mk hr0
  have hn : (0 : Int) < (l0.length : Int) := by omega
  clear hr0 hc0
  go_enter Try.func69, Try.ntmps69
  go_wp2
  clear hx hx0 h1
  go_loopg [3, 4] l0.length (fun gg s3 s4 wr => ∃ (ii : Nat) (m : Int), 1 ≤ ii ∧ ii ≤ l0.length ∧ l0.length - ii ≤ gg ∧ s3 = .int .i64 m ∧ s4 = .int .i64 ii ∧ Aside0 (m = Lib.maxOf (l0.take ii)) ∧ wr = w)
  case atStart => exact ⟨1, rd l0 0, Nat.le_refl _, by omega, by omega, rfl, rfl, ⟨by rw [Lib.maxOf_one]; rfl⟩, rfl⟩
  case round =>
    obtain ⟨ii, m, hi1, hii, hg, rfl, rfl, HM, rfl⟩ := hrel
    by_cases hlt : ii < l0.length
    · have hltz : (ii : Int) < (l0.length : Int) := by omega
      have hi0 : (0 : Int) ≤ (ii : Int) := by omega
      obtain ⟨ad2, hA, hx⟩ := Kd.at_int HR.out (ii : Int) hi0 hltz
      obtain rfl : ad = ad2 := by injection hA
      rw [Int.toNat_natCast] at hx
      have HN := Aside0.mk (Lib.maxOf_step l0 ii (by omega) hlt)
      have HG := Aside0.mk (show l0.getD ii 0 = rd l0 (ii : Int) from rfl)
      generalize rd l0 (ii : Int) = x at hx HG
      go_wp2
      all_goals go_roundg (l0.length - (ii + 1))
      all_goals first | omega | skip
      all_goals exact ⟨ii + 1, _, by omega, by omega, Nat.le_refl _, rfl, by go_num, ⟨by rw [HN.out, HG.out, ← HM.out, Int.max_def]; split <;> omega⟩, rfl⟩
    · have hltz : ¬ (ii : Int) < (l0.length : Int) := by omega
      go_wp2
      go_ret
      refine ⟨?_, Drawn0.refl _⟩
      rw [show ii = l0.length by omega, List.take_length] at HM
      rw [← HE.out, ← HM.out]; rfl


/-! ### impl_endOfPasting: function 46 -/
def impl_endOfPasting.f (k : Nat) (l0 : List Int) (a1 : Int) (a2 : Int) : Option (Int) := (impl_startsOfPasting.f k l0 a1 a2).bind fun t162 => ((slices_Max_int64_int64.f t162).bind fun t165 => (some (wrap64 ((wrap64 (t165 + a1)) + a2))))
theorem impl_endOfPasting.mono : ∀ a0 a1 a2 k, LeO (impl_endOfPasting.f k a0 a1 a2) (impl_endOfPasting.f (k + 1) a0 a1 a2) := by
  intro a0 a1 a2 k
  unfold impl_endOfPasting.f
  repeat' first
      | (with_reducible exact impl_startsOfPasting.mono _ _ _ _)
      | (with_reducible exact LeO.refl _)
      | (with_reducible exact LeO.none _)
      | (with_reducible refine LeO.ite ?_ ?_)
      | (with_reducible refine LeO.bind ?_ (fun _ => ?_))
      | exact impl_startsOfPasting.mono _ _ _ _
      | exact LeO.none _
      | refine LeO.ite ?_ ?_
      | refine LeO.bind ?_ (fun _ => ?_)
set_option maxHeartbeats 8000000 in
set_option maxRecDepth 100000 in
theorem impl_endOfPasting.calls (k : Nat) (A0 : Option Addr) (c0 : Nat) (l0 : List Int) (a1 : Int) (a2 : Int) (r : Int) (w : World) (hr0 : Kd.C (Kd.int .i64) w A0 l0.length l0) (hc0 : l0.length ≤ c0) (h : impl_endOfPasting.f k l0 a1 a2 = some r) :
    Calls Try.prog 46 #[.slice A0 l0.length c0, .int .i64 a1, .int .i64 a2] w fun e w' => e = .returned (.int .i64 r) ∧ Below w.heap.size w w' := by
  have HR0 := Aside0.mk hr0
  have HC0 := Aside0.mk hc0
  clear hr0 hc0
  have HB := Aside0.mk (Below.refl w.heap.size w)
  have H : ((impl_startsOfPasting.f k l0 a1 a2).bind fun t162 => ((slices_Max_int64_int64.f t162).bind fun t165 => (some (wrap64 ((wrap64 (t165 + a1)) + a2))))) = some r := h
  clear h
  replace H := Option.bind_eq_some_iff.mp H
  obtain ⟨t162, A40, H⟩ := H
  replace H : ((slices_Max_int64_int64.f t162).bind fun t165 => (some (wrap64 ((wrap64 (t165 + a1)) + a2)))) = some r := H
  have A4 := Aside0.mk A40
  clear A40
  replace H := Option.bind_eq_some_iff.mp H
  obtain ⟨t165, A50, H⟩ := H
  replace H : (some (wrap64 ((wrap64 (t165 + a1)) + a2))) = some r := H
  have A5 := Aside0.mk A50
  clear A50
  obtain rfl := Option.some.inj H
  go_enter Try.func46, Try.ntmps46
  go_wp2_with (first | ((with_reducible refine gate_callee (f := 56) rfl ?_); refine goesL_ (some 10) rfl rfl Try.func56 (by kernel_rfl) rfl #[.slice A0 l0.length c0, .int .i64 a1, .int .i64 a2] rfl (by (try simp only [List.map_toArray, List.map_cons, List.map_nil]); first | done | rfl | (simp only [List.length_drop, List.length_take]; rfl)) ?_; (with_reducible refine (impl_startsOfPasting.calls k _ _ l0 a1 a2 t162 _ ?side1 ?side2 A4.out).mono ?_); (case side1 => repeat (first | exact HR0.out | (with_reducible refine Kd.C_alloc ?_ _) | (with_reducible refine Kd.C_drewN ?_ _) | (with_reducible refine Kd.C_drew ?_))); (case side2 => exact HC0.out); rintro e w6 ⟨v163, rfl, ho0, hb⟩; refine ⟨_, rfl, ?_⟩; have n0_ := Aside0.mk (Kd.R_lower ho0 (below_size (by repeat (first | (with_reducible first | exact HB.out | apply below_alloc | apply pw_below_drewN | apply below_drew1) | exact HB.out)))); have n1_ := Aside0.mk (below_step (by repeat (first | (with_reducible first | exact HB.out | apply below_alloc | apply pw_below_drewN | apply below_drew1) | exact HB.out)) hb); clear HB; have HO164 := n0_; have HB := n1_; clear n0_ n1_; (try clear hb); (try clear hb2); (try clear hk); (try clear hi); (try clear ho0); obtain ⟨Ao7, co7, eo7⟩ := Kd.R_slice HO164.out; subst eo7) | ((with_reducible refine gate_callee (f := 69) rfl ?_); refine goesL_ (some 11) rfl rfl Try.func69 (by kernel_rfl) rfl #[.slice Ao7 t162.length co7] rfl (by (try simp only [List.map_toArray, List.map_cons, List.map_nil]); first | done | rfl | (simp only [List.length_drop, List.length_take]; rfl)) ?_; (with_reducible refine (slices_Max_int64_int64.calls _ _ t162 t165 _ ?side1 ?side2 A5.out).mono ?_); (case side1 => repeat (first | exact (Kd.R_reads' HO164.out).2.2 | (with_reducible refine Kd.C_alloc ?_ _) | (with_reducible refine Kd.C_drewN ?_ _) | (with_reducible refine Kd.C_drew ?_))); (case side2 => exact (Kd.R_reads' HO164.out).2.1); rintro e w' ⟨rfl, ⟨nd, rfl⟩⟩; refine ⟨_, rfl, ?_⟩))
  go_ret
  exact ⟨by first | rfl | (simp [errW_none, errW_some] <;> rfl) | (simp [*, errW_none, errW_some] <;> rfl), by repeat (first | (with_reducible first | exact HB.out | apply below_alloc | apply pw_below_drewN | apply below_drew1) | exact HB.out)⟩

/-! ### impl_check: function 55 -/
def impl_check.f (a0 : Bool) (a1 : Bool) : Option (Int) := if a0 = true then (if a1 = true then (some 0) else (some 2)) else (some 1)
set_option maxHeartbeats 8000000 in
set_option maxRecDepth 100000 in
theorem impl_check.calls (a0 : Bool) (a1 : Bool) (r : Int) (w : World) (h : impl_check.f a0 a1 = some r) :
    Calls Try.prog 55 #[.bool a0, .bool a1] w fun e w' => e = .returned (.int .i64 r) ∧ Drawn0 w w' := by
  have H : (if a0 = true then (if a1 = true then (some 0) else (some 2)) else (some 1)) = some r := h
  clear h
  by_cases c3 : a0 = true
  · subst c3
    have H1 : (if a1 = true then (some 0) else (some 2)) = some r := by rw [if_pos rfl] at H; exact H
    clear H
    have H := H1
    clear H1
    by_cases c4 : a1 = true
    · subst c4
      have H1 : (some 0) = some r := by rw [if_pos rfl] at H; exact H
      clear H
      have H := H1
      clear H1
      obtain rfl := Option.some.inj H
      go_enter Try.func55, Try.ntmps55
      go_wp2
      go_ret
      exact ⟨by first | rfl | (simp; done) | (simp [*]; done), by repeat (first | exact Drawn0.refl _ | apply Drawn0.step)⟩
    · replace c4 := Bool.eq_false_iff.mpr c4
      subst c4
      have H1 : (some 2) = some r := by rw [if_neg (show ¬ (false = true) by decide)] at H; exact H
      clear H
      have H := H1
      clear H1
      obtain rfl := Option.some.inj H
      go_enter Try.func55, Try.ntmps55
      go_wp2
      go_ret
      exact ⟨by first | rfl | (simp; done) | (simp [*]; done), by repeat (first | exact Drawn0.refl _ | apply Drawn0.step)⟩
  · replace c3 := Bool.eq_false_iff.mpr c3
    subst c3
    have H1 : (some 1) = some r := by rw [if_neg (show ¬ (false = true) by decide)] at H; exact H
    clear H
    have H := H1
    clear H1
    obtain rfl := Option.some.inj H
    go_enter Try.func55, Try.ntmps55
    go_wp2
    go_ret
    exact ⟨by first | rfl | (simp; done) | (simp [*]; done), by repeat (first | exact Drawn0.refl _ | apply Drawn0.step)⟩

end Go.Proofs.Ytfpddpkloplpeaa.QFnExactEndOfPasting
