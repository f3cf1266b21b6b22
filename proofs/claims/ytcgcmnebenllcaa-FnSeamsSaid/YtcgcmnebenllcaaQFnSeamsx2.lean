/- Walks of the Go functions that the law FnSeams reaches: written by a program of this session. -/
import Derived.Test.YtcgcmnebenllcaaQFnSeamsx0
import Derived.Test.YtcgcmnebenllcaaQFnSeamsx1
namespace Go.Proofs.Ytcgcmnebenllcaa.QFnSeams
open Go.RowKit Go.Proofs.YtcgcmnebenllcaaW.PrintWords Go.Proofs.YtcgcmnebenllcaaW.PrintLast Go.Proofs.YtcgcmnebenllcaaW.PrintMore
attribute [local go_sem] max2_int min2_int max_two min_two max_three min_three max_four min_four   -- for this text's walks alone
set_option linter.unusedVariables false
set_option linter.unusedSimpArgs false

/-! ### slices_Repeat_int64_int64: function 70 -/
theorem u64w (n : Int) (h0 : 0 ≤ n) (h1 : n < 18446744073709551616) : IntKind.u64.wrap n = n := by
  simp only [IntKind.wrap, IntKind.bits, IntKind.signed]; simp; omega
theorem u64_low (m : Int) (h0 : 0 ≤ m) (h1 : m ≤ 1000) : bits .and .u64 m 4294967295 = m := by
  have := bits_mask .u64 32 (by decide) (fun n a b => u64w n a (by omega)) 32 (by decide) m h0 (by omega)
  rw [show ((2 : Int) ^ 32 - 1) = 4294967295 by decide] at this
  rw [this]; omega
set_option maxHeartbeats 4000000 in
set_option maxRecDepth 100000 in
theorem mul64_one (m : Int) (h0 : 0 ≤ m) (h1 : m ≤ 1000) (w : World) : Calls Try.prog 76 #[.int .u64 1, .int .u64 m] w fun e w' => e = .returned (.tuple #[.int .u64 0, .int .u64 m]) ∧ ∃ q, w' = w.drewN q := by
  have hm := u64_low m h0 h1
  have h1' : bits .and .u64 1 4294967295 = 1 := by decide
  have hd : m / 4294967296 = 0 := by omega
  have hw := u64w m h0 (by omega)
  go_enter Try.func76, Try.ntmps76
  go_wp2
  go_ret2
  refine ⟨?_, 0, rfl⟩
  have hz : bits BinOp.and IntKind.u64 0 4294967295 = 0 := by decide
  simp only [Array.getD]
  simp [hz]
  (try decide)
set_option maxHeartbeats 4000000 in
set_option maxRecDepth 100000 in
theorem mul_one_ (m : Int) (h0 : 0 ≤ m) (h1 : m ≤ 1000) (w : World) : Calls Try.prog 74 #[.int .u64 1, .int .u64 m] w fun e w' => e = .returned (.tuple #[.int .u64 0, .int .u64 m]) ∧ ∃ q, w' = w.drewN q := by
  have H0 := Aside0.mk h0
  have H1 := Aside0.mk h1
  clear h0 h1
  go_enter Try.func74, Try.ntmps74
  go_wp2_with (go_at_call 76; refine (mul64_one m H0.out H1.out _).mono ?_; rintro e w' ⟨rfl, q, rfl⟩)
  go_ret2
  exact ⟨rfl, _, rfl⟩
/-- q times x, from place o on. -/
def splice (x : Int) : Nat → Nat → List Int → List Int
  | 0, _, xs => xs
  | q + 1, o, xs => splice x q (o + 1) (xs.set o x)
theorem splice_length (x : Int) : ∀ (q o : Nat) (xs : List Int), (splice x q o xs).length = xs.length
  | 0, _, _ => rfl
  | q + 1, o, xs => by rw [splice, splice_length x q]; simp
theorem splice_at (x : Int) : ∀ (q o : Nat) (xs : List Int) (j : Nat), j < xs.length → (splice x q o xs).getD j 0 = if o ≤ j ∧ j < o + q then x else xs.getD j 0
  | 0, o, xs, j, h => by rw [splice, if_neg (by omega)]
  | q + 1, o, xs, j, h => by
    rw [splice, splice_at x q (o + 1) (xs.set o x) j (by simpa using h)]
    by_cases e : j = o
    · subst e
      rw [if_neg (by omega), if_pos (by omega)]
      simp [List.getD_eq_getElem?_getD, h]
    · by_cases c : o + 1 ≤ j ∧ j < o + 1 + q
      · rw [if_pos c, if_pos (by omega)]
      · rw [if_neg c, if_neg (by omega)]
        simp [List.getD_eq_getElem?_getD, List.getElem?_set, Ne.symm e]
theorem R_splice {e base g n cap : Nat} {ok : Nat → Prop} (x : Int) : ∀ (q o : Nat) (xs : List Int) (w : World), (Kd.int .i64).R e w base ok (.slice (some ⟨g, 0, none⟩) n cap) xs → (Kd.int .i64).R e (w.setCells g o (List.replicate q (.int .i64 x))) base ok (.slice (some ⟨g, 0, none⟩) n cap) (splice x q o xs)
  | 0, _, _, _, h => h
  | q + 1, o, xs, w, h => by
    have h1 := (Kd.R_putg h (o : Int) x).1
    rw [Int.toNat_natCast] at h1
    exact R_splice x q (o + 1) _ _ h1
theorem below_cells {w : World} {g : Nat} : ∀ (vs : List Value) (o : Nat) (W : World), Below w.heap.size w W → w.heap.size ≤ g → Below w.heap.size w (W.setCells g o vs)
  | [], _, _, h, _ => h
  | v :: r, o, W, h, hg => below_cells r (o + 1) _ (below_set h hg) hg
/-- What the builtin copy does where all that it takes is one number. -/
theorem copy_x (W : World) (base gb o dl dc n cap : Nat) (ok : Nat → Prop) (xs : List Int) (ad : Addr) (sl sc q : Nat) (x : Int) (ty : TypeId) (hR : (Kd.int .i64).R 2 W base ok (.slice (some ⟨gb, 0, none⟩) n cap) xs) (hoq : o + q ≤ n) (hq : q = Nat.min sl dl) (hsrc : ∀ j : Nat, j < q → W.cell? (ad.add j) = some (.int .i64 x)) :
    (Builtin.copy_ #[22, 22] ty #[.slice (some ⟨gb, o, none⟩) dl dc, .slice (some ad) sl sc]).run Try.prog W = .ok (goInt q) (W.setCells gb o (List.replicate q (.int .i64 x))) := by
  have h := run_copy_cells (P := Try.prog) W 22 22 ty 2 gb o dl dc ad sl sc (List.replicate q (.int .i64 x)) Try.underlying22 (by kernel_rfl) (by rw [List.length_replicate]; exact hq) (fun j v hj => by
      rw [List.getElem?_replicate] at hj
      split at hj
      · rename_i hlt
        cases hj
        exact hsrc j hlt
      · cases hj) (fun j hj => by
      rw [List.length_replicate] at hj
      have := (Kd.R_celln 0 hR ((o + j : Nat) : Int) (by omega) (by omega)).1
      rw [Int.toNat_natCast] at this
      rw [this]; rfl) (fun j hj => by
      rw [List.length_replicate] at hj
      have := (Kd.R_celln 0 hR ((o + j : Nat) : Int) (by omega) (by omega)).2
      rw [Int.toNat_natCast] at this
      exact this) (fun v hv => by
      have := List.eq_of_mem_replicate hv
      subst this; rfl)
  rw [List.length_replicate] at h
  exact h
def slices_Repeat_int64_int64.f (l0 : List Int) (a1 : Int) : Option (List Int) := if l0.length = 1 ∧ 1 ≤ a1 ∧ a1 ≤ 1000 then some (List.replicate a1.toNat (rd l0 0)) else none
def slices_Repeat_int64_int64.T9 : Bool × List (List Nat × List Nat) := (true, [([], []), ([], []), ([], []), ([1, 2], [1, 2]), ([], []), ([], []), ([4, 5], [4, 5]), ([3, 6], [3, 6]), ([0, 7], [0, 7]), ([8, 7, 0, 1, 2, 3, 4, 5, 6, 7, 8], [0, 2, 5, 8])])
theorem slices_Repeat_int64_int64.tab9 : rtab .any (opsOf Try.f70 9) = slices_Repeat_int64_int64.T9 := by kernel_rfl
set_option maxHeartbeats 8000000 in
set_option maxRecDepth 1000000 in
theorem slices_Repeat_int64_int64.calls (A0 : Option Addr) (c0 : Nat) (l0 : List Int) (a1 : Int) (r : List Int) (w : World) (hr0 : Kd.C (Kd.int .i64) w A0 l0.length l0) (hc0 : l0.length ≤ c0) (h : slices_Repeat_int64_int64.f l0 a1 = some r) :
    Calls Try.prog 70 #[.slice A0 l0.length c0, .int .i64 a1] w fun e w' => ∃ v0_ : Value, e = .returned (v0_) ∧ Kd.R (Kd.int .i64) 2 w' w.heap.size (fun _ => True) v0_ r ∧ Below w.heap.size w w' := by
  unfold slices_Repeat_int64_int64.f at h
  by_cases hl : l0.length = 1 ∧ 1 ≤ a1 ∧ a1 ≤ 1000
  case neg => rw [if_neg hl] at h; exact absurd h (by simp)
  rw [if_pos hl] at h
  obtain rfl := Option.some.inj h
  clear h
  obtain ⟨hl, ha1, ha2⟩ := hl
  obtain ⟨x, rfl⟩ : ∃ x, l0 = [x] := List.length_eq_one_iff.1 hl
  obtain ⟨m, rfl⟩ : ∃ m : Nat, a1 = (m : Int) := ⟨a1.toNat, by omega⟩
  obtain ⟨ad, rfl, hx⟩ := Kd.at_int hr0 0 (by omega) (by simp)
  rw [Int.toNat_natCast, show rd [x] 0 = x from rfl]
  have hx : w.cell? (ad.add 0) = some (.int .i64 x) := hx
  have hw := u64w (m : Int) (by omega) (by omega)
  have hv : IntKind.i64.wrap (m : Int) = (m : Int) := by rw [i64_w]; unfold wrap64; omega
  have hm0 : ¬ (m : Int) < 0 := by omega
  have hm1 : ¬ (9223372036854775807 : Int) < (m : Int) := by omega
  have hm2 : 0 ≤ (m : Int) := by omega
  have HX := Aside0.mk hx
  have HB := Aside0.mk (Below.refl w.heap.size w)
  clear hx hr0 hl hc0
  go_enter Try.func70, Try.ntmps70
  go_wp2_with (first | (go_at_call 74; refine (mul_one_ (m : Int) (by omega) (by omega) _).mono ?_; rintro e w' ⟨rfl, q, rfl⟩) | ((with_reducible refine gate_dst (N := 30) rfl ?_); refine Kd.R_make (Kd.int .i64) _ 2 rfl (N := 30) rfl 22 _ _ rfl (m : Int) rfl rfl Try.underlying22 (.int .i64 0) 8 info2 rfl (by decide) (by omega) 0 (ok := fun _ => True) (okp := fun _ => True) rfl (fun _ hk => hk) trivial (by omega) (by omega) (Below.refl _ _) (Nat.le_refl _) ?_; intro v1 w3 ho4 hb hg_ hnew_; clear hg_ hnew_; rw [Int.toNat_natCast] at ho4; have n0_ := Aside0.mk (Kd.R_lower ho4 (below_size (pw_below_drewN HB.out _))); have n1_ := Aside0.mk (below_step (pw_below_drewN HB.out _) hb); clear HB; have HO := n0_; have HB := n1_; clear n0_ n1_ hb ho4; obtain ⟨gb, cap, eo, gbb, gl, cl⟩ := Kd.R_form HO.out (by simp; omega); subst eo; have n0_ := Aside0.mk (show (Kd.int .i64).R 2 w3 w.heap.size (fun _ => True) (.slice (some ⟨gb, 0, none⟩) m cap) (List.replicate m 0) from (by have q := HO.out; rw [List.length_replicate] at q; exact q)); clear HO; have HO := n0_; clear n0_; have GBB := Aside0.mk gbb; clear gbb gl cl) | ((with_reducible refine gate_builtin (b := .copy) (xs := #[.tmp 31, .tmp 32]) rfl ?_); go_loud (refine Lib.wpList_copy_run w3 rfl (.tmp 31) (.tmp 32) 22 22 rfl (.slice (some ⟨gb, 0, none⟩) m cap) (.slice (some ad) 1 c0) rfl rfl (copy_x w3 _ gb 0 m cap m cap _ _ ad 1 c0 1 x _ HO.out (by omega) (Nat.min_eq_left (show 1 ≤ m by omega)).symm (fun j hj => ?src)) ?_; (case src => (obtain rfl : j = 0 := by omega); exact (HB.out.cell (World.block_lt_of_cell? w _ HX.out)).trans HX.out); have n0_ := Aside0.mk (R_splice x 1 0 _ _ HO.out); have n1_ := Aside0.mk (below_cells (List.replicate 1 (.int .i64 x)) 0 _ HB.out GBB.out); clear HO HB; have HO := n0_; have HB := n1_; clear n0_ n1_)))
  go_loopg [8] m (fun gg s8 wr => ∃ (p : Nat) (xs : List Int), 1 ≤ p ∧ p ≤ m ∧ m - p ≤ gg ∧ s8 = .int .i64 p ∧ Aside0 (xs.length = m ∧ ∀ j, j < p → xs.getD j 0 = x) ∧ Aside0 ((Kd.int .i64).R 2 wr w.heap.size (fun _ => True) (.slice (some ⟨gb, 0, none⟩) m cap) xs) ∧ Aside0 (Below w.heap.size w wr))
  case atStart =>
    refine ⟨1, splice x 1 0 (List.replicate m 0), by omega, by omega, by omega, rfl, ⟨by rw [splice_length, List.length_replicate], fun j hj => ?_⟩, HO, HB⟩
    rw [splice_at x 1 0 _ j (by rw [List.length_replicate]; omega), if_pos (by omega)]
  case round =>
    clear HO HB
    obtain ⟨p, xs, hp1, hpm, hgp, rfl, HL, HO, HB⟩ := hrel
    by_cases hlt : p < m
    · have hltz : (p : Int) < (m : Int) := by omega
      have hcap := (Kd.R_reads' HO.out).2.1
      have hcap0 : (p : Int) ≤ (cap : Int) := by omega
      have hpz : (0 : Int) ≤ (p : Int) := by omega
      have hpt : (p : Int).toNat = p := Int.toNat_natCast p
      have hle : (p : Int) ≤ (m : Int) := by omega
      go_wp2
      refine start_ (n := 10) (S := fun _ => True) (ds := []) #[false, false, false, false, false, false, false, false, false, false] (by kernel_rfl) rfl rfl trivial (fun hHeld => ?_); refine with_tab slices_Repeat_int64_int64.tab9 (fun HT_ => ?_)
      refine pure_ (i := 0) (N := some 38) (v := ?_) (a' := ?_) #[true, false, false, false, false, false, false, false, false, false] rfl rfl (any_of HT_.out (by kernel_rfl)) (fun _ _ _ h => h) (Or.inl ⟨by rfl, ?_⟩) ?_ ?_
      rotate_left
      · intro w'
        go_simp
        with_reducible rfl
      rotate_left
      · simp only [Act.put, List.setIfInBounds_toArray, List.set_cons_zero, List.set_cons_succ, i64_w, i32_w]
        rfl
      refine pure_ (i := 1) (N := some 39) (v := ?_) (a' := ?_) #[true, true, false, false, false, false, false, false, false, false] rfl rfl (any_of HT_.out (by kernel_rfl)) (fun _ _ _ h => h) (Or.inl ⟨by rfl, ?_⟩) ?_ ?_
      rotate_left
      · intro w'
        go_simp
        with_reducible rfl
      rotate_left
      · simp only [Act.put, List.setIfInBounds_toArray, List.set_cons_zero, List.set_cons_succ, i64_w, i32_w]
        rfl
      refine pure_ (i := 2) (N := some 40) (v := ?_) (a' := ?_) #[true, true, true, false, false, false, false, false, false, false] rfl rfl (any_of HT_.out (by kernel_rfl)) (fun _ _ _ h => h) (Or.inl ⟨by rfl, ?_⟩) ?_ ?_
      rotate_left
      · intro w'
        go_simp
        with_reducible rfl
      rotate_left
      · simp only [Act.put, List.setIfInBounds_toArray, List.set_cons_zero, List.set_cons_succ, i64_w, i32_w]
        rfl
      refine pure_ (i := 4) (N := some 42) (v := ?_) (a' := ?_) #[true, true, true, false, true, false, false, false, false, false] rfl rfl (any_of HT_.out (by kernel_rfl)) (fun _ _ _ h => h) (Or.inl ⟨by rfl, ?_⟩) ?_ ?_
      rotate_left
      · intro w'
        go_simp
        with_reducible rfl
      rotate_left
      · simp only [Act.put, List.setIfInBounds_toArray, List.set_cons_zero, List.set_cons_succ, i64_w, i32_w]
        rfl
      refine pure_ (i := 5) (N := some 43) (v := ?_) (a' := ?_) #[true, true, true, false, true, true, false, false, false, false] rfl rfl (any_of HT_.out (by kernel_rfl)) (fun _ _ _ h => h) (Or.inl ⟨by rfl, ?_⟩) ?_ ?_
      rotate_left
      · intro w'
        go_simp
        with_reducible rfl
      rotate_left
      · simp only [Act.put, List.setIfInBounds_toArray, List.set_cons_zero, List.set_cons_succ, i64_w, i32_w]
        rfl
      refine pure_ (i := 3) (N := some 41) (v := ?_) (a' := ?_) #[true, true, true, true, true, true, false, false, false, false] rfl rfl (any_of HT_.out (by kernel_rfl)) (fun _ _ _ h => h) (Or.inl ⟨by rfl, ?_⟩) ?_ ?_
      rotate_left
      · intro w'
        go_simp
        with_reducible rfl
      rotate_left
      · simp only [Act.put, List.setIfInBounds_toArray, List.set_cons_zero, List.set_cons_succ, i64_w, i32_w]
        rfl
      refine pure_ (i := 6) (N := some 44) (v := ?_) (a' := ?_) #[true, true, true, true, true, true, true, false, false, false] rfl rfl (any_of HT_.out (by kernel_rfl)) (fun _ _ _ h => h) (Or.inl ⟨by rfl, ?_⟩) ?_ ?_
      rotate_left
      · intro w'
        go_simp
        with_reducible rfl
      rotate_left
      · simp only [Act.put, List.setIfInBounds_toArray, List.set_cons_zero, List.set_cons_succ, i64_w, i32_w]
        rfl
      refine one_ (i := 7) (N := some 45) #[true, true, true, true, true, true, true, true, false, false] rfl rfl (one_of HT_.out (by kernel_rfl)) (by decide) (fun K hK => ?_)
      rw [if_pos (by rfl)]
      obtain ⟨q, hq⟩ : ∃ q : Nat, q = Nat.min p (m - p) := ⟨_, rfl⟩
      have hq1 : q ≤ p := by rw [hq]; exact Nat.min_le_left _ _
      have hq2 : p + q ≤ m := by have : q ≤ m - p := by rw [hq]; exact Nat.min_le_right _ _
                                 omega
      have hq3 : 1 ≤ q := by rw [hq]; exact Nat.le_min.2 ⟨by omega, by omega⟩
      have hcp := copy_x wr.drew _ gb p (m - p) (cap - p) m cap _ xs ⟨gb, 0, none⟩ p cap q x 3 (Kd.R_drew HO.out) hq2 hq (fun j hj => by
        have := (Kd.R_celln 0 HO.out (j : Int) (by omega) (by omega)).1
        rw [Int.toNat_natCast] at this
        rw [add_plain]
        show wr.cell? _ = _
        rw [this]
        unfold rdOf
        rw [Int.toNat_natCast, HL.out.2 j (by omega)])
      clear hq
      refine Lib.wp_copy_run wr.drew (.tmp 41) (.tmp 44) 22 22 rfl (.slice (some ⟨gb, p, none⟩) (m - p) (cap - p)) (.slice (some ⟨gb, 0, none⟩) p cap) ?ed ?es hcp ?_
      case ed => show Value.slice (if cap = p then some ⟨gb, 0, none⟩ else some ⟨gb, p, none⟩) (m - p) (cap - p) = _; rw [if_neg (by omega)]
      case es => rfl
      refine hK.out _ _ trivial (fun hHeld => ?_)
      clear hK K
      refine norm_ (a' := ?_) ?_ ?_
      rotate_left
      · show Act.put _ (some 45) _ = _
        simp only [Act.put, List.setIfInBounds_toArray, List.set_cons_zero, List.set_cons_succ, i64_w, i32_w]
        rfl
      have hqi : goInt q = .int .i64 (q : Int) := rfl
      refine pure_ (i := 8) (N := some 46) (v := ?_) (a' := ?_) #[true, true, true, true, true, true, true, true, true, false] rfl rfl (any_of HT_.out (by kernel_rfl)) (fun _ _ _ h => h) (Or.inl ⟨by rfl, ?_⟩) ?_ ?_
      rotate_left
      · intro w'
        go_simp
        with_reducible rfl
      rotate_left
      · simp only [Act.put, List.setIfInBounds_toArray, List.set_cons_zero, List.set_cons_succ, i64_w, i32_w]
        rfl
      refine pure_ (i := 9) (N := some 8) (v := ?_) (a' := ?_) #[true, true, true, true, true, true, true, true, true, true] rfl rfl (any_of HT_.out (by kernel_rfl)) (fun _ _ _ h => h) (Or.inl ⟨by rfl, ?_⟩) ?_ ?_
      rotate_left
      · intro w'
        go_simp
        with_reducible rfl
      rotate_left
      · simp only [Act.put, List.setIfInBounds_toArray, List.set_cons_zero, List.set_cons_succ, i64_w, i32_w]
        rfl
      refine done_ (done_of HT_.out (by kernel_rfl)) ?_
      have hs : wrap64 ((p : Int) + (q : Int)) = ((p + q : Nat) : Int) := by unfold wrap64; omega
      have HO2 := Aside0.mk (R_splice x q p xs wr.drew (Kd.R_drew HO.out))
      have HB2 := Aside0.mk (below_cells (List.replicate q (.int .i64 x)) p _ (below_drew1 HB.out) GBB.out)
      generalize wr.drew.setCells gb p (List.replicate q (.int .i64 x)) = wn at HO2 HB2 ⊢
      (try go_wp2)
      go_roundg (m - (p + q))
      case measure => omega
      case rel =>
        refine ⟨p + q, splice x q p xs, by omega, by omega, by omega, by first | rw [hs] | rw [Int.natCast_add], ⟨by rw [splice_length, HL.out.1], fun j hj => ?_⟩, HO2, HB2⟩
        rw [splice_at x q p xs j (by rw [HL.out.1]; omega)]
        by_cases c : p ≤ j ∧ j < p + q
        · rw [if_pos c]
        · rw [if_neg c]; exact HL.out.2 j (by omega)
    · have hltz : ¬ (p : Int) < (m : Int) := by omega
      go_wp2
      go_ret
      refine ⟨_, rfl, ?_, HB.out⟩
      have e : xs = List.replicate m x := by
        apply List.ext_getElem
        · rw [HL.out.1, List.length_replicate]
        · intro j h1 h2
          have := HL.out.2 j (by rw [List.length_replicate] at h2; omega)
          rw [List.getD_eq_getElem?_getD, List.getElem?_eq_getElem h1] at this
          rw [List.getElem_replicate]; exact this
      rw [← e]; exact HO.out


/-! ### impl_boundsFor: function 53 -/
theorem info_row : (Try.prog.info? 22).map (fun i => (i.zero, i.size, i.bytes)) = some (some (.slice none 0 0), 1, 24) := by kernel_rfl
theorem one_C (w : World) (x : Int) : (Kd.int .i64).C (w.alloc (.cells #[.int .i64 x] 2)) (some ⟨w.heap.size, 0, none⟩) 1 [x] := by
  refine ⟨rfl, by decide, fun _ => ⟨_, rfl, fun j p hp => ⟨[.int .i64 p], rfl, rfl, fun i u hu => ?_⟩⟩⟩
  match i, hu with
  | 0, hu =>
    obtain rfl : Value.int .i64 p = u := by simpa using hu
    match j, hp with
    | 0, hp => obtain rfl : x = p := by simpa using hp
               go_simp
    | j + 1, hp => simp at hp
  | i + 1, hu => simp at hu
def impl_boundsFor.f (l0 : List Int) (a1 a2 : Int) : Option (List (List Int)) := if 2 ≤ l0.length ∧ l0.length ≤ 24 then some (Go.Proofs.Ytcgcmnebenllcaa.FW.cb l0.length (Go.Proofs.Ytcgcmnebenllcaa.FW.nx l0.length) (fun k => rd l0 (k : Int)) a2 a1) else none
def big (n : Nat) : List Int := List.replicate (n + 1) 1000000
def impl_boundsFor.T13 : Bool × List (List Nat × List Nat) := (true, [([], []), ([], []), ([0, 1], [0, 1]), ([2], [2]), ([], []), ([], []), ([], []), ([5, 6], [5, 6]), ([7], [7]), ([], []), ([], []), ([], []), ([10, 11], [10, 11]), ([12], [12]), ([], []), ([], []), ([], []), ([3, 4, 0, 1, 2, 3, 4, 8, 13, 15], [3, 4]), ([17, 15, 0, 1, 2, 3, 4, 8, 13, 15], [15, 17]), ([8, 9, 0, 1, 2, 3, 4, 5, 6, 7, 8, 9, 13, 15, 16, 17, 18], [8, 9]), ([19, 16, 18, 0, 1, 2, 3, 4, 5, 6, 7, 8, 9, 13, 15, 16, 17, 18], [16, 19]), ([13, 14, 0, 1, 2, 3, 4, 5, 6, 7, 8, 9, 10, 11, 12, 13, 14, 15, 16, 17, 18, 19, 20], [13, 14]), ([21, 20, 0, 1, 2, 3, 4, 5, 6, 7, 8, 9, 10, 11, 12, 13, 14, 15, 16, 17, 18, 19, 20], [21])])
theorem impl_boundsFor.tab13 : rtab .any (opsOf Try.f53 13) = impl_boundsFor.T13 := by kernel_rfl
set_option maxHeartbeats 8000000 in
set_option maxRecDepth 1000000 in
theorem impl_boundsFor.calls (A0 : Option Addr) (c0 : Nat) (l0 : List Int) (a1 a2 : Int) (r : List (List Int)) (w : World) (hr0 : Kd.C (Kd.int .i64) w A0 l0.length l0) (hc0 : l0.length ≤ c0) (h : impl_boundsFor.f l0 a1 a2 = some r) :
    Calls Try.prog 53 #[.slice A0 l0.length c0, .int .i64 a1, .int .i64 a2] w fun e w' => ∃ v0_ : Value, e = .returned (v0_) ∧ Kd.S (Kd.slice 2 (Kd.int .i64)) 22 w' w.heap.size (fun _ => True) v0_ r ∧ Below w.heap.size w w' := by
  unfold impl_boundsFor.f at h
  by_cases hl : 2 ≤ l0.length ∧ l0.length ≤ 24
  case neg => rw [if_neg hl] at h; exact absurd h (by simp)
  rw [if_pos hl] at h
  obtain rfl := Option.some.inj h
  clear h
  obtain ⟨hl1, hl2⟩ := hl
  generalize hn : l0.length = n at hl1 hl2 hr0 hc0
  have HN := Aside0.mk hn
  have HR := Aside0.mk hr0
  have hn1 : IntKind.i64.wrap ((n : Int) + 1) = (n : Int) + 1 := by rw [i64_w]; unfold wrap64; omega
  have HB := Aside0.mk (Below.refl w.heap.size w)
  clear hn hr0
  go_enter Try.func53, Try.ntmps53
  go_wp2_with (first | ((with_reducible refine gate_dst (N := 14) rfl ?_); refine Kd.S_lit (Kd.slice 2 (Kd.int .i64)) _ 22 ?hg (N := 14) ?hd (xs := ([] : List (List Int))) (inner := []) (ok := fun _ => True) (okp := fun _ => True) ?hr ?hp (fun _ hk => hk) trivial (Below.refl _ _) (Nat.le_refl _) (by simp) ?_; (case hd => rfl); (case hg => rfl); (case hr => first | (go_simp; done) | (go_simp; rfl)); (case hp => exact (Reps.none _ _)); intro v5 w3 ho4 hb hg_ hnew_; clear hg_ hnew_; have n0_ := Aside0.mk ho4; have n1_ := Aside0.mk (below_step HB.out hb); clear HB; have HO := n0_; have HB := n1_; clear n0_ n1_ hb ho4))
  go_loopg [8, 17] (n + 1) (fun gg s8 s17 wr => ∃ ii : Nat, ii ≤ n + 1 ∧ n + 1 - ii ≤ gg ∧ s17 = .int .i64 ii ∧ Aside0 (Kd.S (Kd.slice 2 (Kd.int .i64)) 22 wr w.heap.size (fun _ => True) s8 (List.replicate ii (big n))) ∧ Aside0 (Below w.heap.size w wr))
  case atStart => exact ⟨0, Nat.zero_le _, by omega, rfl, HO, HB⟩
  case round =>
    clear HO HB
    obtain ⟨ii, hii, hg, rfl, HO, HB⟩ := hrel
    by_cases hlt : ii < n + 1
    · have hltz : (ii : Int) < (n : Int) + 1 := by omega
      obtain ⟨A8, c8, e8⟩ := Kd.S_slice HO.out
      rw [List.length_replicate] at e8
      subst e8
      have HRP := Aside0.mk (show slices_Repeat_int64_int64.f [1000000] ((n : Int) + 1) = some (big n) from by unfold slices_Repeat_int64_int64.f big; rw [if_pos ⟨rfl, by omega, by omega⟩]; congr 1)
      have HII := Aside0.mk hii
      have HN2 := Aside0.mk hl2
      go_wp2_with (first | (go_at_call 70; refine (slices_Repeat_int64_int64.calls (some ⟨wr.heap.size, 0, none⟩) 1 [1000000] ((n : Int) + 1) (big n) (wr.alloc (.cells #[.int .i64 1000000] 2)) (one_C wr 1000000) (Nat.le_refl 1) HRP.out).mono ?_; rintro e w2 ⟨v2, rfl, ho, hb⟩; have n0_ := Aside0.mk (Kd.S_mono (Kd.S_below (Kd.S_bound (Kd.S_alloc HO.out _)) hb) (fun k hk => (show True ∧ ¬ some k = v2.ownBlock from ⟨trivial, fun e_ => by have q1 := Kd.R_base ho k e_.symm; have q2 := hk.2.2.1; omega⟩))); have n1_ := Aside0.mk (below_step (below_alloc HB.out _) hb); have n3_ := Aside0.mk (fun k (hk : some k = v2.ownBlock) => (fun he => by have q1 := Kd.R_base ho k hk.symm; have q2 := Kd.S_lt (Kd.S_alloc HO.out (.cells #[.int .i64 1000000] 2)) k he.symm; omega : some k ≠ (Value.slice A8 ii c8).ownBlock)); have n2_ := Aside0.mk (Kd.R_tight rfl (Kd.R_lower ho (below_size (below_alloc HB.out _)))); clear HO HB; have HO := n0_; have HB := n1_; have HV := n2_; have NE := n3_; clear n0_ n1_ n2_ n3_ ho hb; obtain ⟨A2, c2, e2⟩ := Kd.R_slice HV.out; subst e2) | ((with_reducible refine gate_builtin (b := .append) (xs := #[.tmp 19, .tmp 24]) rfl ?_); go_loud (refine Kd.S_append (Kd.slice 2 (Kd.int .i64)) (w0 := w) (W := w2) w.heap.size rfl (.tmp 19) (.tmp 24) 51 22 (.slice none 0 0) 24 rfl Try.underlying51 info_row rfl (by decide) (by omega) (.slice A8 ii c8) (List.replicate ii (big n)) (big n) [.slice A2 (big n).length c2] (fun _ => True) (fun k => some k = (Value.slice A2 (big n).length c2).ownBlock) rfl rfl ⟨_, rfl, HV.out⟩ (fun k hk => ⟨trivial, NE.out k hk⟩) (fun _ _ => trivial) HO.out HB.out HB.out.size (by have := HII.out; have := HN2.out; rw [List.length_replicate]; omega) ?_; intro v1 w1 ho hb hg hat; have n0_ := Aside0.mk ho; have n1_ := Aside0.mk hb; clear HO HB; have HO := n0_; have HB := n1_; clear n0_ n1_ ho hb hg hat)))
      go_roundg (n + 1 - (ii + 1))
      case measure => omega
      case rel => exact ⟨ii + 1, by omega, by omega, by go_num, ⟨by have q := HO.out; rw [show List.replicate (ii + 1) (big n) = List.replicate ii (big n) ++ [big n] from List.replicate_succ']; exact q⟩, HB⟩
    · have hltz : ¬ (ii : Int) < (n : Int) + 1 := by omega
      obtain rfl : ii = n + 1 := by omega
      obtain ⟨g, cap, e8, gb, gl, _⟩ := Kd.S_form HO.out (by rw [List.length_replicate]; omega)
      rw [List.length_replicate] at e8
      subst e8
      have GB := Aside0.mk gb
      clear gb gl
      go_wp2
      go_loopg [29] n (fun gg s29 wr => ∃ kk : Nat, kk ≤ n ∧ n - kk ≤ gg ∧ s29 = .int .i64 kk ∧ Aside0 (Kd.S (Kd.slice 2 (Kd.int .i64)) 22 wr w.heap.size (fun _ => True) (.slice (some ⟨g, 0, none⟩) (n + 1) cap) (Go.Proofs.Ytcgcmnebenllcaa.FW.bk n (Go.Proofs.Ytcgcmnebenllcaa.FW.nx n) (fun k => rd l0 (k : Int)) a2 a1 kk)) ∧ Aside0 (Below w.heap.size w wr))
      case atStart => exact ⟨0, Nat.zero_le _, by omega, rfl, HO, HB⟩
      case round =>
        clear HO HB
        obtain ⟨kk, hkk, hg, rfl, HO, HB⟩ := hrel
        by_cases hlt : kk < n
        · have hltz : (kk : Int) < (n : Int) := by omega
          have hkk0 : (0 : Int) ≤ (kk : Int) := by omega
          obtain ⟨nu, hnu⟩ : ∃ nu, Go.Proofs.Ytcgcmnebenllcaa.FW.nx n kk = nu := ⟨_, rfl⟩
          have hnu2 := Go.Proofs.Ytcgcmnebenllcaa.FW.nx_ok n hl1 kk hlt
          rw [hnu] at hnu2
          have hmod : Int.tmod ((kk : Int) + 1) (n : Int) = (nu : Int) := by
            rw [Int.tmod_eq_emod_of_nonneg (by omega), ← hnu]; unfold Go.Proofs.Ytcgcmnebenllcaa.FW.nx; rw [Int.natCast_emod]; rfl
          have hkk1 : IntKind.i64.wrap ((kk : Int) + 1) = (kk : Int) + 1 := by rw [i64_w]; unfold wrap64; omega
          have hn0 : ¬ (n : Int) = 0 := by omega
          have hSQ := Go.Proofs.Ytcgcmnebenllcaa.FW.bk_sq n (Go.Proofs.Ytcgcmnebenllcaa.FW.nx n) (fun k => rd l0 (k : Int)) a2 a1 (fun a ha => (Go.Proofs.Ytcgcmnebenllcaa.FW.nx_ok n hl1 a ha).1) kk hkk
          have hstep : Go.Proofs.Ytcgcmnebenllcaa.FW.bk n (Go.Proofs.Ytcgcmnebenllcaa.FW.nx n) (fun k => rd l0 (k : Int)) a2 a1 (kk + 1) = Go.Proofs.Ytcgcmnebenllcaa.FW.b1 (Go.Proofs.Ytcgcmnebenllcaa.FW.bk n (Go.Proofs.Ytcgcmnebenllcaa.FW.nx n) (fun k => rd l0 (k : Int)) a2 a1 kk) n (Go.Proofs.Ytcgcmnebenllcaa.FW.nx n) (rd l0 (kk : Int)) a2 a1 kk := rfl
          generalize Go.Proofs.Ytcgcmnebenllcaa.FW.bk n (Go.Proofs.Ytcgcmnebenllcaa.FW.nx n) (fun k => rd l0 (k : Int)) a2 a1 kk = X at HO hSQ hstep
          obtain ⟨ad, hA, hgp⟩ := Kd.at_int (Kd.C_below HR.out HB.out) (kk : Int) hkk0 hltz
          cases hA
          rw [Int.toNat_natCast] at hgp
          generalize rd l0 (kk : Int) = gp at hgp hstep
          unfold Go.Proofs.Ytcgcmnebenllcaa.FW.b1 at hstep
          simp only [] at hstep
          rw [hnu] at hstep
          obtain ⟨v1, hv1⟩ : ∃ v, mn (Go.Proofs.Ytcgcmnebenllcaa.FW.g2 X kk nu) (wrap64 (a2 - gp)) = v := ⟨_, rfl⟩
          rw [hv1] at hstep
          obtain ⟨v2, hv2⟩ : ∃ v, mn (Go.Proofs.Ytcgcmnebenllcaa.FW.g2 (Go.Proofs.Ytcgcmnebenllcaa.FW.s2 X kk nu v1) nu kk) (wrap64 (a2 + gp)) = v := ⟨_, rfl⟩
          rw [hv2] at hstep
          have SQ1 := Go.Proofs.Ytcgcmnebenllcaa.FW.Sq_s2 hSQ kk nu v1 (by omega)
          have SQ2 := Go.Proofs.Ytcgcmnebenllcaa.FW.Sq_s2 SQ1 nu kk v2 (by omega)
          have SQ3 := Aside0.mk (Go.Proofs.Ytcgcmnebenllcaa.FW.Sq_s2 SQ2 n kk a1 (by omega))
          have SQ4 := Aside0.mk (Go.Proofs.Ytcgcmnebenllcaa.FW.Sq_s2 SQ3.out kk n a1 (by omega))
          have STEP := Aside0.mk hstep
          obtain ⟨gk, ck, rk, rkj, _, bk1, ne1, set1⟩ := rows_open hSQ HO.out kk (by omega)
          obtain ⟨x1, f1⟩ := rkj nu (by omega)
          have HO1 := Aside0.mk (Kd.S_drew (set1 nu v1))
          have HB1 := Aside0.mk (below_drew1 (below_set (j := nu) (v := .int .i64 v1) HB.out bk1))
          generalize hy1 : Go.Proofs.Ytcgcmnebenllcaa.FW.g2 X kk nu = y1 at x1 hv1
          have hm1 : (if wrap64 (a2 - gp) < y1 then wrap64 (a2 - gp) else y1) = v1 := hv1
          have hm1w : (if IntKind.i64.wrap (a2 - gp) < y1 then IntKind.i64.wrap (a2 - gp) else y1) = v1 := by rw [i64_w]; exact hv1
          have SQ1a := Aside0.mk SQ1
          have SQ2a := Aside0.mk SQ2
          have HV2 := Aside0.mk hv2
          have BX := Aside0.mk bk1
          have NX := Aside0.mk hnu2
          have hnu3 : (nu : Int) < (n : Int) + 1 := by omega
          have hnu0 : (0 : Int) ≤ (nu : Int) := by omega
          have hkn : (kk : Int) < (n : Int) + 1 := by omega
          clear rkj set1 hSQ hstep hy1 hv1 hv2 SQ1 SQ2 bk1 HO
          go_wp2
          go_still_tail 17, (by kernel_rfl)
          change wpList _ _ _ _ _ wr.drew
          go_wp2
          generalize (wr.setCell ⟨gk, nu, none⟩ (.int .i64 v1)).drew = W1 at HO1 HB1 ⊢
          clear x1 f1 rk ne1 hgp
          obtain ⟨gp1, cp1, rp1, rpj1, _, bp1, nep1, setp1⟩ := rows_open SQ1a.out HO1.out nu (by have := NX.out; omega)
          obtain ⟨z1, h1⟩ := rpj1 kk (by omega)
          have HO2 := Aside0.mk (Kd.S_drew (setp1 kk v2))
          have HB2 := Aside0.mk (below_drew1 (below_set (j := kk) (v := .int .i64 v2) HB1.out bp1))
          have hv2 := HV2.out
          clear HV2
          generalize hyy : Go.Proofs.Ytcgcmnebenllcaa.FW.g2 (Go.Proofs.Ytcgcmnebenllcaa.FW.s2 X kk nu v1) nu kk = yy at z1 hv2
          have hm2 : (if wrap64 (a2 + gp) < yy then wrap64 (a2 + gp) else yy) = v2 := hv2
          have hm2w : (if IntKind.i64.wrap (a2 + gp) < yy then IntKind.i64.wrap (a2 + gp) else yy) = v2 := by rw [i64_w]; exact hv2
          clear rpj1 setp1 hyy hv2 bp1 HO1 hm1 hm1w
          go_still_tail 17, (by kernel_rfl)
          change wpList _ _ _ _ _ W1.drew
          go_wp2
          generalize (W1.setCell ⟨gp1, kk, none⟩ (.int .i64 v2)).drew = W0 at HO2 HB2 ⊢
          clear z1 h1 rp1 nep1 hm2 hm2w
          have n0_ := Aside0.mk (Kd.S_drew HO2.out)
          have n1_ := Aside0.mk (below_drew1 HB2.out)
          clear HO2 HB2
          have HO2 := n0_
          have HB2 := n1_
          clear n0_ n1_
          obtain ⟨gn, cn, rn, rnj, _, bn, nen, setn⟩ := rows_open SQ2a.out HO2.out n (by omega)
          obtain ⟨gp2, cp2, rp2, _, _, _, nep2, _⟩ := rows_open SQ2a.out HO2.out kk (by omega)
          obtain ⟨x3, f3⟩ := rnj kk (by omega)
          have HO3 := Aside0.mk (setn kk a1)
          have HB3 := Aside0.mk (below_set (j := kk) (v := .int .i64 a1) HB2.out bn)
          have y2 : (W0.drew.setCell ⟨gn, kk, none⟩ (.int .i64 a1)).cell? ⟨g, kk, none⟩ = some (.slice (some ⟨gp2, 0, none⟩) (n + 1) cp2) := by rw [World.cell?_setCell_other _ _ _ _ (by simp; (try (intro e; exact absurd e nen)))]; exact rp2
          clear rnj setn
          have hnn0 : (0 : Int) ≤ (n : Int) := by omega
          have hnn1 : (n : Int) < (n : Int) + 1 := by omega
          refine start_ (n := 23) (S := fun w' => w'.cell? ⟨g, n, none⟩ = some (.slice (some ⟨gn, 0, none⟩) (n + 1) cn) ∧ w'.cell? ⟨g, kk, none⟩ = some (.slice (some ⟨gp2, 0, none⟩) (n + 1) cp2)) (ds := [18, 20, 22]) #[false, false, false, false, false, false, false, false, false, false, false, false, false, false, false, false, false, false, false, false, false, false, false] (by kernel_rfl) rfl rfl ⟨rn, rp2⟩ (fun hHeld => ?_); refine with_tab impl_boundsFor.tab13 (fun HT_ => ?_)
          generalize W0.drew = W2 at HO2 HB2 HO3 HB3 x3 f3 rn rp2 y2 hHeld ⊢
          refine pure_ (i := 0) (N := some 72) (v := ?_) (a' := ?_) #[true, false, false, false, false, false, false, false, false, false, false, false, false, false, false, false, false, false, false, false, false, false, false] rfl rfl (any_of HT_.out (by kernel_rfl)) (fun _ _ _ h => h) (Or.inl ⟨by rfl, ?_⟩) ?_ ?_
          rotate_left
          · intro w'
            go_simp
            with_reducible rfl
          rotate_left
          · simp only [Act.put, List.setIfInBounds_toArray, List.set_cons_zero, List.set_cons_succ, i64_w, i32_w]
            rfl
          refine pure_ (i := 1) (N := some 73) (v := ?_) (a' := ?_) #[true, true, false, false, false, false, false, false, false, false, false, false, false, false, false, false, false, false, false, false, false, false, false] rfl rfl (any_of HT_.out (by kernel_rfl)) (fun _ _ _ h => h) (Or.inl ⟨by rfl, ?_⟩) ?_ ?_
          rotate_left
          · intro w'
            go_simp
            with_reducible rfl
          rotate_left
          · simp only [Act.put, List.setIfInBounds_toArray, List.set_cons_zero, List.set_cons_succ, i64_w, i32_w]
            rfl
          refine pure_ (i := 4) (N := some 76) (v := ?_) (a' := ?_) #[true, true, false, false, true, false, false, false, false, false, false, false, false, false, false, false, false, false, false, false, false, false, false] rfl rfl (any_of HT_.out (by kernel_rfl)) (fun _ _ _ h => h) (Or.inl ⟨by rfl, ?_⟩) ?_ ?_
          rotate_left
          · intro w'
            go_simp
            with_reducible rfl
          rotate_left
          · simp only [Act.put, List.setIfInBounds_toArray, List.set_cons_zero, List.set_cons_succ, i64_w, i32_w]
            rfl
          refine pure_ (i := 5) (N := some 77) (v := ?_) (a' := ?_) #[true, true, false, false, true, true, false, false, false, false, false, false, false, false, false, false, false, false, false, false, false, false, false] rfl rfl (any_of HT_.out (by kernel_rfl)) (fun _ _ _ h => h) (Or.inl ⟨by rfl, ?_⟩) ?_ ?_
          rotate_left
          · intro w'
            go_simp
            with_reducible rfl
          rotate_left
          · simp only [Act.put, List.setIfInBounds_toArray, List.set_cons_zero, List.set_cons_succ, i64_w, i32_w]
            rfl
          refine pure_ (i := 6) (N := some 78) (v := ?_) (a' := ?_) #[true, true, false, false, true, true, true, false, false, false, false, false, false, false, false, false, false, false, false, false, false, false, false] rfl rfl (any_of HT_.out (by kernel_rfl)) (fun _ _ _ h => h) (Or.inl ⟨by rfl, ?_⟩) ?_ ?_
          rotate_left
          · intro w'
            go_simp
            with_reducible rfl
          rotate_left
          · simp only [Act.put, List.setIfInBounds_toArray, List.set_cons_zero, List.set_cons_succ, i64_w, i32_w]
            rfl
          refine pure_ (i := 9) (N := some 81) (v := ?_) (a' := ?_) #[true, true, false, false, true, true, true, false, false, true, false, false, false, false, false, false, false, false, false, false, false, false, false] rfl rfl (any_of HT_.out (by kernel_rfl)) (fun _ _ _ h => h) (Or.inl ⟨by rfl, ?_⟩) ?_ ?_
          rotate_left
          · intro w'
            go_simp
            with_reducible rfl
          rotate_left
          · simp only [Act.put, List.setIfInBounds_toArray, List.set_cons_zero, List.set_cons_succ, i64_w, i32_w]
            rfl
          refine pure_ (i := 10) (N := some 82) (v := ?_) (a' := ?_) #[true, true, false, false, true, true, true, false, false, true, true, false, false, false, false, false, false, false, false, false, false, false, false] rfl rfl (any_of HT_.out (by kernel_rfl)) (fun _ _ _ h => h) (Or.inl ⟨by rfl, ?_⟩) ?_ ?_
          rotate_left
          · intro w'
            go_simp
            with_reducible rfl
          rotate_left
          · simp only [Act.put, List.setIfInBounds_toArray, List.set_cons_zero, List.set_cons_succ, i64_w, i32_w]
            rfl
          refine pure_ (i := 11) (N := some 83) (v := ?_) (a' := ?_) #[true, true, false, false, true, true, true, false, false, true, true, true, false, false, false, false, false, false, false, false, false, false, false] rfl rfl (any_of HT_.out (by kernel_rfl)) (fun _ _ _ h => h) (Or.inl ⟨by rfl, ?_⟩) ?_ ?_
          rotate_left
          · intro w'
            go_simp
            with_reducible rfl
          rotate_left
          · simp only [Act.put, List.setIfInBounds_toArray, List.set_cons_zero, List.set_cons_succ, i64_w, i32_w]
            rfl
          refine pure_ (i := 14) (N := some 86) (v := ?_) (a' := ?_) #[true, true, false, false, true, true, true, false, false, true, true, true, false, false, true, false, false, false, false, false, false, false, false] rfl rfl (any_of HT_.out (by kernel_rfl)) (fun _ _ _ h => h) (Or.inl ⟨by rfl, ?_⟩) ?_ ?_
          rotate_left
          · intro w'
            go_simp
            with_reducible rfl
          rotate_left
          · simp only [Act.put, List.setIfInBounds_toArray, List.set_cons_zero, List.set_cons_succ, i64_w, i32_w]
            rfl
          refine pure_ (i := 15) (N := some 87) (v := ?_) (a' := ?_) #[true, true, false, false, true, true, true, false, false, true, true, true, false, false, true, true, false, false, false, false, false, false, false] rfl rfl (any_of HT_.out (by kernel_rfl)) (fun _ _ _ h => h) (Or.inl ⟨by rfl, ?_⟩) ?_ ?_
          rotate_left
          · intro w'
            go_simp
            with_reducible rfl
          rotate_left
          · simp only [Act.put, List.setIfInBounds_toArray, List.set_cons_zero, List.set_cons_succ, i64_w, i32_w]
            rfl
          refine pure_ (i := 16) (N := some 88) (v := ?_) (a' := ?_) #[true, true, false, false, true, true, true, false, false, true, true, true, false, false, true, true, true, false, false, false, false, false, false] rfl rfl (any_of HT_.out (by kernel_rfl)) (fun _ _ _ h => h) (Or.inl ⟨by rfl, ?_⟩) ?_ ?_
          rotate_left
          · intro w'
            go_simp
            with_reducible rfl
          rotate_left
          · simp only [Act.put, List.setIfInBounds_toArray, List.set_cons_zero, List.set_cons_succ, i64_w, i32_w]
            rfl
          refine pure_ (i := 2) (N := some 74) (v := ?_) (a' := ?_) #[true, true, true, false, true, true, true, false, false, true, true, true, false, false, true, true, true, false, false, false, false, false, false] rfl rfl (any_of HT_.out (by kernel_rfl)) (fun _ _ _ h => h) (Or.inl ⟨by rfl, ?_⟩) ?_ ?_
          rotate_left
          · intro w'
            go_simp
            with_reducible rfl
          rotate_left
          · simp only [Act.put, List.setIfInBounds_toArray, List.set_cons_zero, List.set_cons_succ, i64_w, i32_w]
            rfl
          refine pure_ (i := 7) (N := some 79) (v := ?_) (a' := ?_) #[true, true, true, false, true, true, true, true, false, true, true, true, false, false, true, true, true, false, false, false, false, false, false] rfl rfl (any_of HT_.out (by kernel_rfl)) (fun _ _ _ h => h) (Or.inl ⟨by rfl, ?_⟩) ?_ ?_
          rotate_left
          · intro w'
            go_simp
            with_reducible rfl
          rotate_left
          · simp only [Act.put, List.setIfInBounds_toArray, List.set_cons_zero, List.set_cons_succ, i64_w, i32_w]
            rfl
          refine pure_ (i := 12) (N := some 84) (v := ?_) (a' := ?_) #[true, true, true, false, true, true, true, true, false, true, true, true, true, false, true, true, true, false, false, false, false, false, false] rfl rfl (any_of HT_.out (by kernel_rfl)) (fun _ _ _ h => h) (Or.inl ⟨by rfl, ?_⟩) ?_ ?_
          rotate_left
          · intro w'
            go_simp
            with_reducible rfl
          rotate_left
          · simp only [Act.put, List.setIfInBounds_toArray, List.set_cons_zero, List.set_cons_succ, i64_w, i32_w]
            rfl
          refine take_ (i := 3) (N := some 75) (v := ?_) (a' := ?_) #[true, true, true, true, true, true, true, true, false, true, true, true, true, false, true, true, true, false, false, false, false, false, false] rfl rfl (take_of HT_.out (by kernel_rfl)) (fun _ _ _ h => h) (Or.inl ⟨by rfl, ?_⟩) hHeld ?_ ?_
          rotate_left
          · rintro w' ⟨s0, s1⟩
            go_simp
            with_reducible rfl
          rotate_left
          · simp only [Act.put, List.setIfInBounds_toArray, List.set_cons_zero, List.set_cons_succ, i64_w, i32_w]
            rfl
          refine take_ (i := 8) (N := some 80) (v := ?_) (a' := ?_) #[true, true, true, true, true, true, true, true, true, true, true, true, true, false, true, true, true, false, false, false, false, false, false] rfl rfl (take_of HT_.out (by kernel_rfl)) (fun _ _ _ h => h) (Or.inl ⟨by rfl, ?_⟩) hHeld ?_ ?_
          rotate_left
          · rintro w' ⟨s0, s1⟩
            go_simp
            with_reducible rfl
          rotate_left
          · simp only [Act.put, List.setIfInBounds_toArray, List.set_cons_zero, List.set_cons_succ, i64_w, i32_w]
            rfl
          refine take_ (i := 13) (N := some 85) (v := ?_) (a' := ?_) #[true, true, true, true, true, true, true, true, true, true, true, true, true, true, true, true, true, false, false, false, false, false, false] rfl rfl (take_of HT_.out (by kernel_rfl)) (fun _ _ _ h => h) (Or.inl ⟨by rfl, ?_⟩) hHeld ?_ ?_
          rotate_left
          · rintro w' ⟨s0, s1⟩
            go_simp
            with_reducible rfl
          rotate_left
          · simp only [Act.put, List.setIfInBounds_toArray, List.set_cons_zero, List.set_cons_succ, i64_w, i32_w]
            rfl
          refine pure_ (i := 17) (N := some 89) (v := ?_) (a' := ?_) #[true, true, true, true, true, true, true, true, true, true, true, true, true, true, true, true, true, true, false, false, false, false, false] rfl rfl (any_of HT_.out (by kernel_rfl)) (fun _ _ _ h => h) (Or.inl ⟨by rfl, ?_⟩) ?_ ?_
          rotate_left
          · intro w'
            go_simp
            with_reducible rfl
          rotate_left
          · simp only [Act.put, List.setIfInBounds_toArray, List.set_cons_zero, List.set_cons_succ, i64_w, i32_w]
            rfl
          refine last_ (i := 18) (N := none) #[true, true, true, true, true, true, true, true, true, true, true, true, true, true, true, true, true, true, true, false, false, false, false] rfl rfl (one_of HT_.out (by kernel_rfl)) (by decide) (fun K hK => ?_)
          refine skip_ (w1 := ?_) (by rfl) rfl ?_ ?_
          rotate_left
          · go_simp
            rfl
          refine hK.out _ _ ?_
          clear hK K
          generalize hW3 : W2.setCell ⟨gn, kk, none⟩ (.int .i64 a1) = W3 at HO3 HB3 y2 ⊢
          obtain ⟨gk2, ck2, rk2, rkj2, _, bk2, ne2, set2⟩ := rows_open SQ3.out HO3.out kk (by omega)
          obtain ⟨rfl, rfl⟩ : gp2 = gk2 ∧ cp2 = ck2 := by rw [y2] at rk2; injection rk2 with q; injection q with q1 q2 q3; injection q1 with q1; injection q1 with q1; exact ⟨q1, q3⟩
          obtain ⟨x4, f4⟩ := rkj2 n (by omega)
          have HO4 := Aside0.mk (set2 n a1)
          have HB4 := Aside0.mk (below_set (j := n) (v := .int .i64 a1) HB3.out bk2)
          clear rkj2 set2
          refine pure_ (i := 19) (N := some 90) (v := ?_) (a' := ?_) #[true, true, true, true, true, true, true, true, true, true, true, true, true, true, true, true, true, true, true, true, false, false, false] rfl rfl (any_of HT_.out (by kernel_rfl)) (fun _ _ _ h => h) (Or.inl ⟨by rfl, ?_⟩) ?_ ?_
          rotate_left
          · intro w'
            go_simp
            with_reducible rfl
          rotate_left
          · simp only [Act.put, List.setIfInBounds_toArray, List.set_cons_zero, List.set_cons_succ, i64_w, i32_w]
            rfl
          refine last_ (i := 20) (N := none) #[true, true, true, true, true, true, true, true, true, true, true, true, true, true, true, true, true, true, true, true, true, false, false] rfl rfl (one_of HT_.out (by kernel_rfl)) (by decide) (fun K hK => ?_)
          refine skip_ (w1 := ?_) (by rfl) rfl ?_ ?_
          rotate_left
          · go_simp
            rfl
          refine hK.out _ _ ?_
          clear hK K
          have y3 : (W3.setCell ⟨gp2, n, none⟩ (.int .i64 a1)).cell? ⟨g, kk, none⟩ = some (.slice (some ⟨gp2, 0, none⟩) (n + 1) cp2) := by rw [World.cell?_setCell_other _ _ _ _ (by simp; (try (intro e; exact absurd e ne2)))]; exact y2
          generalize hW4 : W3.setCell ⟨gp2, n, none⟩ (.int .i64 a1) = W4 at HO4 HB4 y3 ⊢
          obtain ⟨gk3, ck3, rk3, rkj3, _, bk3, ne3, set3⟩ := rows_open SQ4.out HO4.out kk (by omega)
          obtain ⟨rfl, rfl⟩ : gp2 = gk3 ∧ cp2 = ck3 := by rw [y3] at rk3; injection rk3 with q; injection q with q1 q2 q3; injection q1 with q1; injection q1 with q1; exact ⟨q1, q3⟩
          obtain ⟨x5, f5⟩ := rkj3 kk (by omega)
          have HO5 := Aside0.mk (set3 kk 0)
          have HB5 := Aside0.mk (below_set (j := kk) (v := .int .i64 0) HB4.out bk3)
          clear rkj3 set3
          refine pure_ (i := 21) (N := some 91) (v := ?_) (a' := ?_) #[true, true, true, true, true, true, true, true, true, true, true, true, true, true, true, true, true, true, true, true, true, true, false] rfl rfl (any_of HT_.out (by kernel_rfl)) (fun _ _ _ h => h) (Or.inl ⟨by rfl, ?_⟩) ?_ ?_
          rotate_left
          · intro w'
            go_simp
            with_reducible rfl
          rotate_left
          · simp only [Act.put, List.setIfInBounds_toArray, List.set_cons_zero, List.set_cons_succ, i64_w, i32_w]
            rfl
          refine last_ (i := 22) (N := none) #[true, true, true, true, true, true, true, true, true, true, true, true, true, true, true, true, true, true, true, true, true, true, true] rfl rfl (one_of HT_.out (by kernel_rfl)) (by decide) (fun K hK => ?_)
          refine skip_ (w1 := ?_) (by rfl) rfl ?_ ?_
          rotate_left
          · go_simp
            rfl
          refine hK.out _ _ ?_
          clear hK K
          refine done_ (done_of HT_.out (by kernel_rfl)) ?_
          have HO6 := HO5.out
          have HB6 := HB5.out
          generalize W4.setCell ⟨gp2, kk, none⟩ (.int .i64 0) = W5 at HO6 HB6 ⊢
          (try go_wp2)
          go_roundg (n - (kk + 1))
          case measure => omega
          case rel =>
            refine ⟨kk + 1, by omega, by omega, by go_num, ⟨?_⟩, ⟨HB6⟩⟩
            rw [STEP.out]
            exact HO6
        · have hltz : ¬ (kk : Int) < (n : Int) := by omega
          obtain rfl : kk = n := by omega
          have hSQ := Go.Proofs.Ytcgcmnebenllcaa.FW.bk_sq kk (Go.Proofs.Ytcgcmnebenllcaa.FW.nx kk) (fun k => rd l0 (k : Int)) a2 a1 (fun a ha => (Go.Proofs.Ytcgcmnebenllcaa.FW.nx_ok kk hl1 a ha).1) kk (Nat.le_refl _)
          obtain ⟨gn, cn, rn, rnj, _, bn, nen, setn⟩ := rows_open hSQ HO.out kk (by omega)
          obtain ⟨x3, f3⟩ := rnj kk (by omega)
          have hSQ2 := Aside0.mk (Go.Proofs.Ytcgcmnebenllcaa.FW.Sq_s2 hSQ kk kk 0 (by omega))
          have HO2 := Aside0.mk (setn kk 0)
          have HB2 := Aside0.mk (below_set (j := kk) (v := .int .i64 0) HB.out bn)
          have HL := Aside0.mk hl2
          have hkk0 : (0 : Int) ≤ (kk : Int) := by omega
          have hkk1 : (kk : Int) < (kk : Int) + 1 := by omega
          have hcb : Go.Proofs.Ytcgcmnebenllcaa.FW.cb kk (Go.Proofs.Ytcgcmnebenllcaa.FW.nx kk) (fun k => rd l0 (k : Int)) a2 a1 = Go.Proofs.Ytcgcmnebenllcaa.FW.ck (Go.Proofs.Ytcgcmnebenllcaa.FW.s2 (Go.Proofs.Ytcgcmnebenllcaa.FW.bk kk (Go.Proofs.Ytcgcmnebenllcaa.FW.nx kk) (fun k => rd l0 (k : Int)) a2 a1 kk) kk kk 0) (kk + 1) (kk + 1) := rfl
          generalize Go.Proofs.Ytcgcmnebenllcaa.FW.s2 (Go.Proofs.Ytcgcmnebenllcaa.FW.bk kk (Go.Proofs.Ytcgcmnebenllcaa.FW.nx kk) (fun k => rd l0 (k : Int)) a2 a1 kk) kk kk 0 = X at HO2 hSQ2 hcb
          have HCB := Aside0.mk hcb
          clear rnj setn hSQ hcb HO
          go_wp2_with (go_at_call 54; refine (impl_bounds_close.calls_ (fun _ => True) g cap (kk + 1) X (by omega) (by omega) hSQ2.out w _ HB2.out HO2.out).mono ?_; rintro e w2 ⟨rfl, ho, hb, hk⟩; have n0_ := Aside0.mk ho; have n1_ := Aside0.mk hb; clear HO2 HB2 hk ho hb; have HO2 := n0_; have HB2 := n1_; clear n0_ n1_)
          go_ret
          exact ⟨_, rfl, by rw [HCB.out]; exact HO2.out, HB2.out⟩


/-! ### impl_bounds_possible: function 69 -/
def impl_bounds_possible.l0 : Nat → List (List Int) → Int → Int → Option (Bool)
  | 0, _, _, _ => none
  | k + 1, x0, x5, x6 => if x6 < x5 then (if 0 ≤ x6 then (if x6 < (x0.length : Int) then (if x6 < ((rd_L2 x0 x6).length : Int) then (if (rd (rd_L2 x0 x6) x6) < 0 then (some false) else (impl_bounds_possible.l0 k x0 x5 (wrap64 (x6 + 1)))) else (none)) else (none)) else (none)) else (some true)
def impl_bounds_possible.f (k : Nat) (l0 : List (List Int)) : Option (Bool) := impl_bounds_possible.l0 k l0 (l0.length : Int) 0
theorem impl_bounds_possible.mono_l : ∀ k, (∀ y0 y1 y2, LeO (impl_bounds_possible.l0 k y0 y1 y2) (impl_bounds_possible.l0 (k + 1) y0 y1 y2))
  | 0 => fun _ _ _ r h => by simp [impl_bounds_possible.l0] at h
  | k + 1 => by
    have ih0 := impl_bounds_possible.mono_l k
    · intro y0 y1 y2
      unfold impl_bounds_possible.l0
      repeat' first
      | (with_reducible exact ih0 _ _ _)
      | (with_reducible exact LeO.refl _)
      | (with_reducible exact LeO.none _)
      | (with_reducible refine LeO.ite ?_ ?_)
      | (with_reducible refine LeO.bind ?_ (fun _ => ?_))
      | exact ih0 _ _ _
      | exact LeO.none _
      | refine LeO.ite ?_ ?_
      | refine LeO.bind ?_ (fun _ => ?_)
theorem impl_bounds_possible.mono : ∀ a0 k, LeO (impl_bounds_possible.f k a0) (impl_bounds_possible.f (k + 1) a0) := by
  intro a0 k
  have ih0 := impl_bounds_possible.mono_l k
  unfold impl_bounds_possible.f
  repeat' first
      | (with_reducible exact ih0 _ _ _)
      | (with_reducible exact LeO.refl _)
      | (with_reducible exact LeO.none _)
      | (with_reducible refine LeO.ite ?_ ?_)
      | (with_reducible refine LeO.bind ?_ (fun _ => ?_))
      | exact ih0 _ _ _
      | exact LeO.none _
      | refine LeO.ite ?_ ?_
      | refine LeO.bind ?_ (fun _ => ?_)
set_option maxHeartbeats 8000000 in
set_option maxRecDepth 100000 in
theorem impl_bounds_possible.calls (k : Nat) (A0 : Option Addr) (c0 : Nat) (l0 : List (List Int)) (r : Bool) (w : World) (hr0 : Kd.C (Kd.slice 2 (Kd.int .i64)) w A0 l0.length l0) (hc0 : l0.length ≤ c0) (h : impl_bounds_possible.f k l0 = some r) :
    Calls Try.prog 69 #[.slice A0 l0.length c0] w fun e w' => e = .returned (.bool r) ∧ Drawn0 w w' := by
  have HR0 := Aside0.mk hr0
  have HC0 := Aside0.mk hc0
  clear hr0 hc0
  have H : (impl_bounds_possible.l0 k l0 (l0.length : Int) 0) = some r := h
  clear h
  have H' := Aside0.mk H
  clear H
  go_enter Try.func69, Try.ntmps69
  go_wp2
  go_loopg [6] k (fun kq v6 w' => ∃ (x6_1 : Int), v6 = .int .i64 x6_1 ∧ Aside0 (impl_bounds_possible.l0 kq l0 (l0.length : Int) x6_1 = some r) ∧ Aside0 (kq ≤ k) ∧ Drawn0 w w')
  case atStart => exact ⟨(0), (by first | rfl | (simp; done) | (simp [*]; done)), H', ⟨Nat.le_refl _⟩, by repeat (first | exact Drawn0.refl _ | apply Drawn0.step)⟩
  case round =>
    clear H'
    obtain ⟨x6_1, rfl, HA, HK1, ⟨m1, rfl⟩⟩ := hrel
    cases gk with
    | zero => exact absurd HA.out (by simp [impl_bounds_possible.l0])
    | succ k1 =>
      have H := HA.out
      clear HA
      simp only [impl_bounds_possible.l0] at H
      by_cases c2 : x6_1 < (l0.length : Int)
      · rw [if_pos c2] at H
        have c2b0 : decide (x6_1 < (l0.length : Int)) = true := decide_eq_true c2
        clear c2
        by_cases c3 : 0 ≤ x6_1
        · rw [if_pos c3] at H
          have c3b0 : decide (0 ≤ x6_1) = true := decide_eq_true c3
          clear c3
          by_cases c4 : x6_1 < (l0.length : Int)
          · rw [if_pos c4] at H
            have c4b0 : decide (x6_1 < (l0.length : Int)) = true := decide_eq_true c4
            clear c4
            by_cases c5 : x6_1 < ((rd_L2 l0 x6_1).length : Int)
            · rw [if_pos c5] at H
              have c5b0 : decide (x6_1 < ((rd_L2 l0 x6_1).length : Int)) = true := decide_eq_true c5
              clear c5
              by_cases c6 : (rd (rd_L2 l0 x6_1) x6_1) < 0
              · rw [if_pos c6] at H
                have c6b0 : decide ((rd (rd_L2 l0 x6_1) x6_1) < 0) = true := decide_eq_true c6
                clear c6
                obtain rfl := Option.some.inj H
                have p127 : 0 ≤ (x6_1 : Int) := of_decide_eq_true (by first | (with_reducible assumption) | assumption)
                have q127 : x6_1 < (l0.length : Int) := of_decide_eq_true (by first | (with_reducible assumption) | assumption)
                obtain ⟨ad127, A127_0, c127_0, e127, hx127_0, hl127_0, hi127_0⟩ := at_L2 HR0.out x6_1 p127 q127
                cases e127
                have HR127_0 := Aside0.mk hi127_0
                have HC127_0 := Aside0.mk hl127_0
                clear hi127_0 hl127_0
                replace p127 := eq_true p127
                replace q127 := eq_true q127
                have p128 : 0 ≤ (x6_1 : Int) := of_decide_eq_true (by first | (with_reducible assumption) | assumption)
                have q128 : x6_1 < ((rd_L2 l0 x6_1).length : Int) := of_decide_eq_true (by first | (with_reducible assumption) | assumption)
                obtain ⟨ad128, e128, hx128_0⟩ := Kd.at_int HR127_0.out x6_1 p128 q128
                cases e128
                replace p128 := eq_true p128
                replace q128 := eq_true q128
                go_wp2
                go_ret
                exact ⟨by first | rfl | (simp; done) | (simp [*]; done), by repeat (first | exact Drawn0.refl _ | apply Drawn0.step)⟩
              · rw [if_neg c6] at H
                have c6b0 : decide ((rd (rd_L2 l0 x6_1) x6_1) < 0) = false := decide_eq_false c6
                clear c6
                have H' := Aside0.mk H
                clear H
                have p127 : 0 ≤ (x6_1 : Int) := of_decide_eq_true (by first | (with_reducible assumption) | assumption)
                have q127 : x6_1 < (l0.length : Int) := of_decide_eq_true (by first | (with_reducible assumption) | assumption)
                obtain ⟨ad127, A127_0, c127_0, e127, hx127_0, hl127_0, hi127_0⟩ := at_L2 HR0.out x6_1 p127 q127
                cases e127
                have HR127_0 := Aside0.mk hi127_0
                have HC127_0 := Aside0.mk hl127_0
                clear hi127_0 hl127_0
                replace p127 := eq_true p127
                replace q127 := eq_true q127
                have p128 : 0 ≤ (x6_1 : Int) := of_decide_eq_true (by first | (with_reducible assumption) | assumption)
                have q128 : x6_1 < ((rd_L2 l0 x6_1).length : Int) := of_decide_eq_true (by first | (with_reducible assumption) | assumption)
                obtain ⟨ad128, e128, hx128_0⟩ := Kd.at_int HR127_0.out x6_1 p128 q128
                cases e128
                replace p128 := eq_true p128
                replace q128 := eq_true q128
                go_wp2
                go_roundg k1
                case measure => have := HK1.out; omega
                case rel => exact ⟨(wrap64 (x6_1 + 1)), (by first | rfl | (simp; done) | (simp [*]; done)), H', ⟨by have := HK1.out; omega⟩, by repeat (first | exact Drawn0.refl _ | apply Drawn0.step)⟩
            · rw [if_neg c5] at H
              exact absurd H (by simp)
          · rw [if_neg c4] at H
            exact absurd H (by simp)
        · rw [if_neg c3] at H
          exact absurd H (by simp)
      · rw [if_neg c2] at H
        have c2b0 : decide (x6_1 < (l0.length : Int)) = false := decide_eq_false c2
        clear c2
        obtain rfl := Option.some.inj H
        go_wp2
        go_ret
        exact ⟨by first | rfl | (simp; done) | (simp [*]; done), by repeat (first | exact Drawn0.refl _ | apply Drawn0.step)⟩

/-! ### impl_leastWorst: function 52 -/
def impl_leastWorst.l0 : Nat → List Int → Int → Int → Int → Option (Int)
  | 0, _, _, _, _ => none
  | k + 1, x0, x1, x5, x6 => if x5 < x6 then ((impl_boundsFor.f x0 x1 (wrap64 (Int.tdiv (wrap64 (x5 + x6)) 2))).bind fun t129 => ((impl_bounds_possible.f k t129).bind fun t132 => (if t132 = true then (impl_leastWorst.l0 k x0 x1 x5 (wrap64 (Int.tdiv (wrap64 (x5 + x6)) 2))) else (impl_leastWorst.l0 k x0 x1 (wrap64 ((wrap64 (Int.tdiv (wrap64 (x5 + x6)) 2)) + 1)) x6)))) else (some x5)
def impl_leastWorst.f (k : Nat) (l0 : List Int) (a1 : Int) : Option (Int) := impl_leastWorst.l0 k l0 a1 0 1000
theorem impl_leastWorst.mono_l : ∀ k, (∀ y0 y1 y2 y3, LeO (impl_leastWorst.l0 k y0 y1 y2 y3) (impl_leastWorst.l0 (k + 1) y0 y1 y2 y3))
  | 0 => fun _ _ _ _ r h => by simp [impl_leastWorst.l0] at h
  | k + 1 => by
    have ih0 := impl_leastWorst.mono_l k
    · intro y0 y1 y2 y3
      unfold impl_leastWorst.l0
      repeat' first
      | (with_reducible exact ih0 _ _ _ _)
      | (with_reducible exact impl_bounds_possible.mono _ _)
      | (with_reducible exact LeO.refl _)
      | (with_reducible exact LeO.none _)
      | (with_reducible refine LeO.ite ?_ ?_)
      | (with_reducible refine LeO.bind ?_ (fun _ => ?_))
      | exact ih0 _ _ _ _
      | exact impl_bounds_possible.mono _ _
      | exact LeO.none _
      | refine LeO.ite ?_ ?_
      | refine LeO.bind ?_ (fun _ => ?_)
theorem impl_leastWorst.mono : ∀ a0 a1 k, LeO (impl_leastWorst.f k a0 a1) (impl_leastWorst.f (k + 1) a0 a1) := by
  intro a0 a1 k
  have ih0 := impl_leastWorst.mono_l k
  unfold impl_leastWorst.f
  repeat' first
      | (with_reducible exact ih0 _ _ _ _)
      | (with_reducible exact impl_bounds_possible.mono _ _)
      | (with_reducible exact LeO.refl _)
      | (with_reducible exact LeO.none _)
      | (with_reducible refine LeO.ite ?_ ?_)
      | (with_reducible refine LeO.bind ?_ (fun _ => ?_))
      | exact ih0 _ _ _ _
      | exact impl_bounds_possible.mono _ _
      | exact LeO.none _
      | refine LeO.ite ?_ ?_
      | refine LeO.bind ?_ (fun _ => ?_)
set_option maxHeartbeats 8000000 in
set_option maxRecDepth 100000 in
theorem impl_leastWorst.calls (k : Nat) (A0 : Option Addr) (c0 : Nat) (l0 : List Int) (a1 : Int) (r : Int) (w : World) (hr0 : Kd.C (Kd.int .i64) w A0 l0.length l0) (hc0 : l0.length ≤ c0) (h : impl_leastWorst.f k l0 a1 = some r) :
    Calls Try.prog 52 #[.slice A0 l0.length c0, .int .i64 a1] w fun e w' => e = .returned (.int .i64 r) ∧ Below w.heap.size w w' := by
  have HR0 := Aside0.mk hr0
  have HC0 := Aside0.mk hc0
  clear hr0 hc0
  have HB := Aside0.mk (Below.refl w.heap.size w)
  have H : (impl_leastWorst.l0 k l0 a1 0 1000) = some r := h
  clear h
  have H' := Aside0.mk H
  clear H
  go_enter Try.func52, Try.ntmps52
  go_wp2
  go_loopg [5, 6] k (fun kq v5 v6 w' => ∃ (x5_1 : Int) (x6_1 : Int), v5 = .int .i64 x5_1 ∧ v6 = .int .i64 x6_1 ∧ Aside0 (impl_leastWorst.l0 kq l0 a1 x5_1 x6_1 = some r) ∧ Aside0 (kq ≤ k) ∧ Aside0 (Below w.heap.size w w'))
  case atStart => exact ⟨(0), (1000), (by first | rfl | (simp; done) | (simp [*]; done)), (by first | rfl | (simp; done) | (simp [*]; done)), H', ⟨Nat.le_refl _⟩, ⟨by repeat (first | (with_reducible first | exact HB.out | apply below_alloc | apply pw_below_drewN | apply below_drew1) | exact HB.out)⟩⟩
  case round =>
    clear H'
    try clear p2
    obtain ⟨x5_1, x6_1, rfl, rfl, HA, HK1, HB⟩ := hrel
    cases gk with
    | zero => exact absurd HA.out (by simp [impl_leastWorst.l0])
    | succ k1 =>
      have H := HA.out
      clear HA
      simp only [impl_leastWorst.l0] at H
      by_cases c3 : x5_1 < x6_1
      · rw [if_pos c3] at H
        have c3b0 : decide (x5_1 < x6_1) = true := decide_eq_true c3
        clear c3
        replace H := Option.bind_eq_some_iff.mp H
        obtain ⟨t129, A40, H⟩ := H
        replace H : ((impl_bounds_possible.f k1 t129).bind fun t132 => (if t132 = true then (impl_leastWorst.l0 k1 l0 a1 x5_1 (wrap64 (Int.tdiv (wrap64 (x5_1 + x6_1)) 2))) else (impl_leastWorst.l0 k1 l0 a1 (wrap64 ((wrap64 (Int.tdiv (wrap64 (x5_1 + x6_1)) 2)) + 1)) x6_1))) = some r := H
        have A4 := Aside0.mk A40
        clear A40
        replace H := Option.bind_eq_some_iff.mp H
        obtain ⟨t132, A50, H⟩ := H
        replace H : (if t132 = true then (impl_leastWorst.l0 k1 l0 a1 x5_1 (wrap64 (Int.tdiv (wrap64 (x5_1 + x6_1)) 2))) else (impl_leastWorst.l0 k1 l0 a1 (wrap64 ((wrap64 (Int.tdiv (wrap64 (x5_1 + x6_1)) 2)) + 1)) x6_1)) = some r := H
        have A5 := Aside0.mk A50
        clear A50
        by_cases c6 : t132 = true
        · subst c6
          have H1 : (impl_leastWorst.l0 k1 l0 a1 x5_1 (wrap64 (Int.tdiv (wrap64 (x5_1 + x6_1)) 2))) = some r := by rw [if_pos rfl] at H; exact H
          clear H
          have H := H1
          clear H1
          have H' := Aside0.mk H
          clear H
          go_wp2_with (first | ((with_reducible refine gate_callee (f := 53) rfl ?_); refine goesL_ (some 18) rfl rfl Try.func53 (by kernel_rfl) rfl #[.slice A0 l0.length c0, .int .i64 a1, .int .i64 (wrap64 (Int.tdiv (wrap64 (x5_1 + x6_1)) 2))] rfl (by (try simp only [List.map_toArray, List.map_cons, List.map_nil]); first | done | rfl | (simp only [List.length_drop, List.length_take]; rfl)) ?_; (with_reducible refine (impl_boundsFor.calls _ _ l0 a1 (wrap64 (Int.tdiv (wrap64 (x5_1 + x6_1)) 2)) t129 _ ?side1 ?side2 A4.out).mono ?_); (case side1 => repeat (first | exact (Kd.C_below HR0.out HB.out) | (with_reducible refine Kd.C_alloc ?_ _) | (with_reducible refine Kd.C_drewN ?_ _) | (with_reducible refine Kd.C_drew ?_))); (case side2 => exact HC0.out); rintro e w7 ⟨v130, rfl, ho0, hb⟩; refine ⟨_, rfl, ?_⟩; have n0_ := Aside0.mk (Kd.S_lower ho0 (below_size (by repeat (first | (with_reducible first | exact HB.out | apply below_alloc | apply pw_below_drewN | apply below_drew1) | exact HB.out)))); have n1_ := Aside0.mk (below_step (by repeat (first | (with_reducible first | exact HB.out | apply below_alloc | apply pw_below_drewN | apply below_drew1) | exact HB.out)) hb); clear HB; have HO131 := n0_; have HB := n1_; clear n0_ n1_; (try clear hb); (try clear hb2); (try clear hk); (try clear hi); (try clear ho0); obtain ⟨Ao8, co8, eo8⟩ := Kd.S_slice HO131.out; subst eo8) | ((with_reducible refine gate_callee (f := 69) rfl ?_); refine goesL_ (some 19) rfl rfl Try.func69 (by kernel_rfl) rfl #[.slice Ao8 t129.length co8] rfl (by (try simp only [List.map_toArray, List.map_cons, List.map_nil]); first | done | rfl | (simp only [List.length_drop, List.length_take]; rfl)) ?_; (with_reducible refine (impl_bounds_possible.calls k1 _ _ t129 true _ ?side1 ?side2 A5.out).mono ?_); (case side1 => repeat (first | exact (Kd.S_reads' HO131.out).2.2 | (with_reducible refine Kd.C_alloc ?_ _) | (with_reducible refine Kd.C_drewN ?_ _) | (with_reducible refine Kd.C_drew ?_))); (case side2 => exact (Kd.S_reads' HO131.out).2.1); rintro e w' ⟨rfl, ⟨nd, rfl⟩⟩; refine ⟨_, rfl, ?_⟩))
          go_roundg k1
          case measure => have := HK1.out; omega
          case rel => exact ⟨(x5_1), (wrap64 (Int.tdiv (wrap64 (x5_1 + x6_1)) 2)), (by first | rfl | (simp; done) | (simp [*]; done)), (by first | rfl | (simp; done) | (simp [*]; done)), H', ⟨by have := HK1.out; omega⟩, ⟨by repeat (first | (with_reducible first | exact HB.out | apply below_alloc | apply pw_below_drewN | apply below_drew1) | exact HB.out)⟩⟩
        · replace c6 := Bool.eq_false_iff.mpr c6
          subst c6
          have H1 : (impl_leastWorst.l0 k1 l0 a1 (wrap64 ((wrap64 (Int.tdiv (wrap64 (x5_1 + x6_1)) 2)) + 1)) x6_1) = some r := by rw [if_neg (show ¬ (false = true) by decide)] at H; exact H
          clear H
          have H := H1
          clear H1
          have H' := Aside0.mk H
          clear H
          go_wp2_with (first | ((with_reducible refine gate_callee (f := 53) rfl ?_); refine goesL_ (some 18) rfl rfl Try.func53 (by kernel_rfl) rfl #[.slice A0 l0.length c0, .int .i64 a1, .int .i64 (wrap64 (Int.tdiv (wrap64 (x5_1 + x6_1)) 2))] rfl (by (try simp only [List.map_toArray, List.map_cons, List.map_nil]); first | done | rfl | (simp only [List.length_drop, List.length_take]; rfl)) ?_; (with_reducible refine (impl_boundsFor.calls _ _ l0 a1 (wrap64 (Int.tdiv (wrap64 (x5_1 + x6_1)) 2)) t129 _ ?side1 ?side2 A4.out).mono ?_); (case side1 => repeat (first | exact (Kd.C_below HR0.out HB.out) | (with_reducible refine Kd.C_alloc ?_ _) | (with_reducible refine Kd.C_drewN ?_ _) | (with_reducible refine Kd.C_drew ?_))); (case side2 => exact HC0.out); rintro e w9 ⟨v130, rfl, ho0, hb⟩; refine ⟨_, rfl, ?_⟩; have n0_ := Aside0.mk (Kd.S_lower ho0 (below_size (by repeat (first | (with_reducible first | exact HB.out | apply below_alloc | apply pw_below_drewN | apply below_drew1) | exact HB.out)))); have n1_ := Aside0.mk (below_step (by repeat (first | (with_reducible first | exact HB.out | apply below_alloc | apply pw_below_drewN | apply below_drew1) | exact HB.out)) hb); clear HB; have HO131 := n0_; have HB := n1_; clear n0_ n1_; (try clear hb); (try clear hb2); (try clear hk); (try clear hi); (try clear ho0); obtain ⟨Ao10, co10, eo10⟩ := Kd.S_slice HO131.out; subst eo10) | ((with_reducible refine gate_callee (f := 69) rfl ?_); refine goesL_ (some 19) rfl rfl Try.func69 (by kernel_rfl) rfl #[.slice Ao10 t129.length co10] rfl (by (try simp only [List.map_toArray, List.map_cons, List.map_nil]); first | done | rfl | (simp only [List.length_drop, List.length_take]; rfl)) ?_; (with_reducible refine (impl_bounds_possible.calls k1 _ _ t129 false _ ?side1 ?side2 A5.out).mono ?_); (case side1 => repeat (first | exact (Kd.S_reads' HO131.out).2.2 | (with_reducible refine Kd.C_alloc ?_ _) | (with_reducible refine Kd.C_drewN ?_ _) | (with_reducible refine Kd.C_drew ?_))); (case side2 => exact (Kd.S_reads' HO131.out).2.1); rintro e w' ⟨rfl, ⟨nd, rfl⟩⟩; refine ⟨_, rfl, ?_⟩))
          go_roundg k1
          case measure => have := HK1.out; omega
          case rel => exact ⟨(wrap64 ((wrap64 (Int.tdiv (wrap64 (x5_1 + x6_1)) 2)) + 1)), (x6_1), (by first | rfl | (simp; done) | (simp [*]; done)), (by first | rfl | (simp; done) | (simp [*]; done)), H', ⟨by have := HK1.out; omega⟩, ⟨by repeat (first | (with_reducible first | exact HB.out | apply below_alloc | apply pw_below_drewN | apply below_drew1) | exact HB.out)⟩⟩
      · rw [if_neg c3] at H
        have c3b0 : decide (x5_1 < x6_1) = false := decide_eq_false c3
        clear c3
        obtain rfl := Option.some.inj H
        go_wp2
        go_ret
        exact ⟨by first | rfl | (simp [errW_none, errW_some] <;> rfl) | (simp [*, errW_none, errW_some] <;> rfl), by repeat (first | (with_reducible first | exact HB.out | apply below_alloc | apply pw_below_drewN | apply below_drew1) | exact HB.out)⟩

end Go.Proofs.Ytcgcmnebenllcaa.QFnSeams
