-- printed by this session's own driver over the kit's printer: Lean checks it
import Derived.Test.YtdcgilnmncanfaaCVecUnits0
namespace Go.Proofs.Ytdcgilnmncanfaa.PVecUnits
open Go.RowKit Go.Proofs.YtdcgilnmncanfaaW.PrintWords Go.Proofs.YtdcgilnmncanfaaW.PrintLast Go.Proofs.YtdcgilnmncanfaaW.PrintMore
attribute [local go_sem] max2_int min2_int max_two min_two max_three min_three max_four min_four   -- for this text's walks alone
set_option linter.unusedVariables false
set_option linter.unusedSimpArgs false

/-! ### vec_Max_1: function 61 -/
def vec_Max_1.f (a0 : Int) (a1 : Int) : Option (Int) := some (mx a0 a1)
set_option maxHeartbeats 8000000 in
set_option maxRecDepth 100000 in
theorem vec_Max_1.calls (a0 : Int) (a1 : Int) (r : Int) (w : World) (h : vec_Max_1.f a0 a1 = some r) :
  Calls Try.prog 61 #[.int .i64 a0, .int .i64 a1] w fun e w' => e = .returned (.int .i64 r) ∧ Below w.heap.size w w' := by
 have HB := XPrint.A0 (Below.refl w.heap.size w)
 have H : (some (mx a0 a1)) = some r := h
 clear h
 obtain ⟨ji3, hji3⟩ : ∃ j_ : Int, (mx a0 a1) = j_ := ⟨_, rfl⟩
 replace H : (some ji3) = some r := by first | (rw [hji3] at H; exact H) | (simp only [hji3] at H ⊢; exact H)
 have hji3_ : (if a0 < a1 then a1 else a0) = ji3 := hji3
 obtain rfl := Option.some.inj H
 go_enter Try.func61, Try.ntmps61
 go_wp2
 go_ret
 exact ⟨by first | rfl | (simp [errW_none, errW_some] <;> rfl) | (simp only [← hji3]; first | rfl | (simp [errW_none, errW_some] <;> rfl)) | (simp [*, errW_none, errW_some] <;> rfl), by exact XPrint.bz HB.out⟩

/-! ### vec_both_int64_at_vec_Max_1: function 40058 -/
def vec_both_int64_at_vec_Max_1.f (a0_0 : Int) (a0_1 : Int) (a1_0 : Int) (a1_1 : Int)  : Option (Int × Int) := (vec_Max_1.f a0_0 a1_0).bind fun t172 => ((vec_Max_1.f a0_1 a1_1).bind fun t173 => (some (t172, t173)))
def vec_both_int64_at_vec_Max_1.T1 : Bool × List (List Nat × List Nat) := (true, [([], []), ([], []), ([1], [1]), ([], []), ([3], [3]), ([0, 2, 4], [0, 2, 4]), ([], []), ([], []), ([7], [7]), ([], []), ([9], [9]), ([6, 8, 10, 5], [6, 8, 10]), ([5, 11, 0, 1, 2, 3, 4, 5], [5]), ([11, 12, 0, 1, 2, 3, 4, 5, 6, 7, 8, 9, 10, 11, 12], [11])])
def vec_both_int64_at_vec_Max_1.B1 : List Nat := [0, 0, 2, 0, 8, 31, 0, 0, 128, 0, 512, 2047, 4095, 8191]
theorem vec_both_int64_at_vec_Max_1.tab1 : rtab .any (opsOf Try.f58 1) = vec_both_int64_at_vec_Max_1.T1 := by kernel_rfl
theorem vec_both_int64_at_vec_Max_1.bits1 : waitsOk vec_both_int64_at_vec_Max_1.T1.2 vec_both_int64_at_vec_Max_1.B1 = true := by kernel_rfl
set_option maxHeartbeats 8000000 in
set_option maxRecDepth 100000 in
theorem vec_both_int64_at_vec_Max_1.calls (a0_0 : Int) (a0_1 : Int) (a1_0 : Int) (a1_1 : Int)  (r1 : Int) (r2 : Int) (w : World) (h : vec_both_int64_at_vec_Max_1.f a0_0 a0_1 a1_0 a1_1 = some (r1, r2)) :
  Calls Try.prog 58 #[.agg #[.int .i64 a0_0, .int .i64 a0_1], .agg #[.int .i64 a1_0, .int .i64 a1_1], .func (.func 61) #[] #[]] w fun e w' => e = .returned (.tuple #[.int .i64 r1, .int .i64 r2]) ∧ Below w.heap.size w w' := by
 have hu23 := Try.underlying23
 have HB := XPrint.A0 (Below.refl w.heap.size w)
 have H : ((vec_Max_1.f a0_0 a1_0).bind fun t172 => ((vec_Max_1.f a0_1 a1_1).bind fun t173 => (some (t172, t173)))) = some (r1, r2) := h
 clear h
 replace H := Option.bind_eq_some_iff.mp H
 obtain ⟨t172, A40, H⟩ := H
 replace H : ((vec_Max_1.f a0_1 a1_1).bind fun t173 => (some (t172, t173))) = some (r1, r2) := H
 have A4 := XPrint.A0 A40
 clear A40
 replace H := Option.bind_eq_some_iff.mp H
 obtain ⟨t173, A50, H⟩ := H
 replace H : (some (t172, t173)) = some (r1, r2) := H
 have A5 := XPrint.A0 A50
 clear A50
 simp only [Option.some.injEq, Prod.mk.injEq] at H
 obtain ⟨rfl, rfl⟩ := H
 go_enter Try.func58, Try.ntmps58
 try go_wp2_with (first | ((with_reducible refine gate_dst (N := 3) rfl ?_); refine box_event ?hg (N := 3) ?hd (cs := #[.int .i64 a0_0, .int .i64 a0_1]) (t := 23) ?hr ?_; (case hd => rfl); (case hg => rfl); (case hr => first | (go_simp; done) | (go_simp; rfl)); intro gb170 hg w6 hbox hb; have n0_ := XPrint.A0 (below_step (by exact XPrint.bz HB.out) hb); have n1_ := XPrint.A0 (hbox); have n2_ := XPrint.A0 ((by rw [hg]; exact (below_size (by exact XPrint.bz HB.out)) : w.heap.size ≤ gb170)); have n3_ := XPrint.A0 ((by rw [hg]; exact (below_size (by exact XPrint.bz HB.out)) : w.heap.size ≤ gb170)); clear HB; have HB := n0_; have BK170 := n1_; have GW170 := n2_; have GE170 := n3_; clear n0_ n1_ n2_ n3_; clear hb hbox hg) | ((with_reducible refine gate_dst (N := 4) rfl ?_); refine box_event ?hg (N := 4) ?hd (cs := #[.int .i64 a1_0, .int .i64 a1_1]) (t := 23) ?hr ?_; (case hd => rfl); (case hg => rfl); (case hr => first | (go_simp; done) | (go_simp; rfl)); intro gb171 hg w7 hbox hb; have n0_ := XPrint.A0 (XPrint.bb BK170.out hb); have n1_ := XPrint.A0 (below_step (by exact XPrint.bz HB.out) hb); have n2_ := XPrint.A0 (hbox); have n3_ := XPrint.A0 ((by rw [hg]; exact (below_size (by exact XPrint.bz HB.out)) : w.heap.size ≤ gb171)); have n4_ := XPrint.A0 ((by rw [hg]; exact (below_size (by exact XPrint.bz HB.out)) : w.heap.size ≤ gb171)); have n5_ := XPrint.A0 ((by rw [hg]; exact Nat.ne_of_lt (XPrint.bl BK170.out) : gb170 ≠ gb171)); have n6_ := XPrint.A0 ((by rw [hg]; exact Nat.ne_of_gt (XPrint.bl BK170.out) : gb171 ≠ gb170)); clear BK170; clear HB; have BK170 := n0_; have HB := n1_; have BK171 := n2_; have GW171 := n3_; have GE171 := n4_; have NB170_171 := n5_; have NB171_170 := n6_; clear n0_ n1_ n2_ n3_ n4_ n5_ n6_; clear hb hbox hg))
 have n0_ := XPrint.A0 (blk_drew BK170.out)
 have n1_ := XPrint.A0 (blk_drew BK171.out)
 have n2_ := XPrint.A0 (below_drew1 HB.out)
 clear BK170 BK171 HB
 have BK170 := n0_; have BK171 := n1_; have HB := n2_
 clear n0_ n1_ n2_
 refine start_ (n := 14) (S := fun w' => w'.cell? ⟨gb170, 0, none⟩ = some (.int .i64 a0_0) ∧ w'.cell? ⟨gb170, 1, none⟩ = some (.int .i64 a0_1) ∧ w'.cell? ⟨gb171, 0, none⟩ = some (.int .i64 a1_0) ∧ w'.cell? ⟨gb171, 1, none⟩ = some (.int .i64 a1_1)) (ds := []) #[false, false, false, false, false, false, false, false, false, false, false, false, false, false] (by kernel_rfl) rfl rfl ⟨(blk_cell BK170.out 0).trans rfl, (blk_cell BK170.out 1).trans rfl, (blk_cell BK171.out 0).trans rfl, (blk_cell BK171.out 1).trans rfl⟩ (fun hHeld => ?_); refine with_tabW vec_both_int64_at_vec_Max_1.tab1 vec_both_int64_at_vec_Max_1.bits1 (fun HT_ HW_ => ?_)
 generalize w7.drew = w8 at BK170 BK171 HB hHeld ⊢
 refine pure_ (i := 0) (N := some 8) (v := ?_) (a' := ?_) #[true, false, false, false, false, false, false, false, false, false, false, false, false, false] rfl rfl (any_of HT_.out (by kernel_rfl)) (fun _ _ _ h => h) (Or.inl ⟨by rfl, ?_⟩) ?_ ?_
 rotate_left
 ·intro w'
  go_simp
  with_reducible rfl
 rotate_left
 ·simp only [Act.put, List.setIfInBounds_toArray, List.set_cons_zero, List.set_cons_succ, i64_w, i32_w]
  rfl
 refine pure_ (i := 1) (N := some 9) (v := ?_) (a' := ?_) #[true, true, false, false, false, false, false, false, false, false, false, false, false, false] rfl rfl (any_of HT_.out (by kernel_rfl)) (fun _ _ _ h => h) (Or.inl ⟨by rfl, ?_⟩) ?_ ?_
 rotate_left
 ·intro w'
  go_simp
  with_reducible rfl
 rotate_left
 ·simp only [Act.put, List.setIfInBounds_toArray, List.set_cons_zero, List.set_cons_succ, i64_w, i32_w]
  rfl
 refine pure_ (i := 3) (N := some 11) (v := ?_) (a' := ?_) #[true, true, false, true, false, false, false, false, false, false, false, false, false, false] rfl rfl (any_of HT_.out (by kernel_rfl)) (fun _ _ _ h => h) (Or.inl ⟨by rfl, ?_⟩) ?_ ?_
 rotate_left
 ·intro w'
  go_simp
  with_reducible rfl
 rotate_left
 ·simp only [Act.put, List.setIfInBounds_toArray, List.set_cons_zero, List.set_cons_succ, i64_w, i32_w]
  rfl
 refine pure_ (i := 6) (N := some 14) (v := ?_) (a' := ?_) #[true, true, false, true, false, false, true, false, false, false, false, false, false, false] rfl rfl (any_of HT_.out (by kernel_rfl)) (fun _ _ _ h => h) (Or.inl ⟨by rfl, ?_⟩) ?_ ?_
 rotate_left
 ·intro w'
  go_simp
  with_reducible rfl
 rotate_left
 ·simp only [Act.put, List.setIfInBounds_toArray, List.set_cons_zero, List.set_cons_succ, i64_w, i32_w]
  rfl
 refine pure_ (i := 7) (N := some 15) (v := ?_) (a' := ?_) #[true, true, false, true, false, false, true, true, false, false, false, false, false, false] rfl rfl (any_of HT_.out (by kernel_rfl)) (fun _ _ _ h => h) (Or.inl ⟨by rfl, ?_⟩) ?_ ?_
 rotate_left
 ·intro w'
  go_simp
  with_reducible rfl
 rotate_left
 ·simp only [Act.put, List.setIfInBounds_toArray, List.set_cons_zero, List.set_cons_succ, i64_w, i32_w]
  rfl
 refine pure_ (i := 9) (N := some 17) (v := ?_) (a' := ?_) #[true, true, false, true, false, false, true, true, false, true, false, false, false, false] rfl rfl (any_of HT_.out (by kernel_rfl)) (fun _ _ _ h => h) (Or.inl ⟨by rfl, ?_⟩) ?_ ?_
 rotate_left
 ·intro w'
  go_simp
  with_reducible rfl
 rotate_left
 ·simp only [Act.put, List.setIfInBounds_toArray, List.set_cons_zero, List.set_cons_succ, i64_w, i32_w]
  rfl
 refine take_ (i := 2) (N := some 10) (v := ?_) (a' := ?_) #[true, true, true, true, false, false, true, true, false, true, false, false, false, false] rfl rfl (take_ofW HT_.out HW_.out (by kernel_rfl)) (fun _ _ _ h => h) (Or.inl ⟨by rfl, ?_⟩) hHeld ?_ ?_
 rotate_left
 ·rintro w' ⟨s0, s1, s2, s3⟩
  go_simp
  with_reducible rfl
 rotate_left
 ·simp only [Act.put, List.setIfInBounds_toArray, List.set_cons_zero, List.set_cons_succ, i64_w, i32_w]
  rfl
 refine take_ (i := 4) (N := some 12) (v := ?_) (a' := ?_) #[true, true, true, true, true, false, true, true, false, true, false, false, false, false] rfl rfl (take_ofW HT_.out HW_.out (by kernel_rfl)) (fun _ _ _ h => h) (Or.inl ⟨by rfl, ?_⟩) hHeld ?_ ?_
 rotate_left
 ·rintro w' ⟨s0, s1, s2, s3⟩
  go_simp
  with_reducible rfl
 rotate_left
 ·simp only [Act.put, List.setIfInBounds_toArray, List.set_cons_zero, List.set_cons_succ, i64_w, i32_w]
  rfl
 refine take_ (i := 8) (N := some 16) (v := ?_) (a' := ?_) #[true, true, true, true, true, false, true, true, true, true, false, false, false, false] rfl rfl (take_ofW HT_.out HW_.out (by kernel_rfl)) (fun _ _ _ h => h) (Or.inl ⟨by rfl, ?_⟩) hHeld ?_ ?_
 rotate_left
 ·rintro w' ⟨s0, s1, s2, s3⟩
  go_simp
  with_reducible rfl
 rotate_left
 ·simp only [Act.put, List.setIfInBounds_toArray, List.set_cons_zero, List.set_cons_succ, i64_w, i32_w]
  rfl
 refine take_ (i := 10) (N := some 18) (v := ?_) (a' := ?_) #[true, true, true, true, true, false, true, true, true, true, true, false, false, false] rfl rfl (take_ofW HT_.out HW_.out (by kernel_rfl)) (fun _ _ _ h => h) (Or.inl ⟨by rfl, ?_⟩) hHeld ?_ ?_
 rotate_left
 ·rintro w' ⟨s0, s1, s2, s3⟩
  go_simp
  with_reducible rfl
 rotate_left
 ·simp only [Act.put, List.setIfInBounds_toArray, List.set_cons_zero, List.set_cons_succ, i64_w, i32_w]
  rfl
 refine one_ (i := 5) (N := some 13) #[true, true, true, true, true, true, true, true, true, true, true, false, false, false] rfl rfl (one_of HT_.out (by kernel_rfl)) (by decide) (fun K hK => ?_)
 refine XPrint.goesV_ (x := .tmp 8) (by rfl) Try.func61 (by kernel_rfl) rfl #[.int .i64 a0_0, .int .i64 a1_0] (by rfl) rfl rfl (by (try simp only [List.map_toArray, List.map_cons, List.map_nil]); first | done | rfl | (simp only [List.length_drop, List.length_take]; rfl)) ?_
 with_reducible refine (vec_Max_1.calls a0_0 a1_0 t172 _ A4.out).mono ?_
 rintro e w9 ⟨rfl, hb⟩
 refine ⟨_, rfl, ?_⟩
 have n0_ := XPrint.A0 (XPrint.bb BK170.out hb)
 have n1_ := XPrint.A0 (XPrint.bb BK171.out hb)
 have n2_ := XPrint.A0 (below_step (by exact XPrint.bz HB.out) hb)
 clear BK170 BK171 HB
 have BK170 := n0_; have BK171 := n1_; have HB := n2_
 clear n0_ n1_ n2_
 (try clear hb)
 (try clear hb2)
 (try clear hk)
 (try clear hi)
 refine hK.out _ _ ⟨(blk_cell BK170.out 0).trans rfl, (blk_cell BK170.out 1).trans rfl, (blk_cell BK171.out 0).trans rfl, (blk_cell BK171.out 1).trans rfl⟩ (fun hHeld => ?_)
 clear hK K
 refine norm_ (a' := ?_) ?_ ?_
 rotate_left
 ·show Act.put _ (some 13) _ = _
  simp only [Act.put, List.setIfInBounds_toArray, List.set_cons_zero, List.set_cons_succ, i64_w, i32_w]
  rfl
 refine one_ (i := 11) (N := some 19) #[true, true, true, true, true, true, true, true, true, true, true, true, false, false] rfl rfl (one_of HT_.out (by kernel_rfl)) (by decide) (fun K hK => ?_)
 refine XPrint.goesV_ (x := .tmp 14) (by rfl) Try.func61 (by kernel_rfl) rfl #[.int .i64 a0_1, .int .i64 a1_1] (by rfl) rfl rfl (by (try simp only [List.map_toArray, List.map_cons, List.map_nil]); first | done | rfl | (simp only [List.length_drop, List.length_take]; rfl)) ?_
 with_reducible refine (vec_Max_1.calls a0_1 a1_1 t173 _ A5.out).mono ?_
 rintro e w10 ⟨rfl, hb⟩
 refine ⟨_, rfl, ?_⟩
 have n0_ := XPrint.A0 (XPrint.bb BK170.out hb)
 have n1_ := XPrint.A0 (XPrint.bb BK171.out hb)
 have n2_ := XPrint.A0 (below_step (by exact XPrint.bz HB.out) hb)
 clear BK170 BK171 HB
 have BK170 := n0_; have BK171 := n1_; have HB := n2_
 clear n0_ n1_ n2_
 (try clear hb)
 (try clear hb2)
 (try clear hk)
 (try clear hi)
 refine hK.out _ _ ⟨(blk_cell BK170.out 0).trans rfl, (blk_cell BK170.out 1).trans rfl, (blk_cell BK171.out 0).trans rfl, (blk_cell BK171.out 1).trans rfl⟩ (fun hHeld => ?_)
 clear hK K
 refine norm_ (a' := ?_) ?_ ?_
 rotate_left
 ·show Act.put _ (some 19) _ = _
  simp only [Act.put, List.setIfInBounds_toArray, List.set_cons_zero, List.set_cons_succ, i64_w, i32_w]
  rfl
 refine pure_ (i := 12) (N := some 6) (v := ?_) (a' := ?_) #[true, true, true, true, true, true, true, true, true, true, true, true, true, false] rfl rfl (any_of HT_.out (by kernel_rfl)) (fun _ _ _ h => h) (Or.inl ⟨by rfl, ?_⟩) ?_ ?_
 rotate_left
 ·intro w'
  go_simp
  with_reducible rfl
 rotate_left
 ·simp only [Act.put, List.setIfInBounds_toArray, List.set_cons_zero, List.set_cons_succ, i64_w, i32_w]
  rfl
 refine pure_ (i := 13) (N := some 7) (v := ?_) (a' := ?_) #[true, true, true, true, true, true, true, true, true, true, true, true, true, true] rfl rfl (any_of HT_.out (by kernel_rfl)) (fun _ _ _ h => h) (Or.inl ⟨by rfl, ?_⟩) ?_ ?_
 rotate_left
 ·intro w'
  go_simp
  with_reducible rfl
 rotate_left
 ·simp only [Act.put, List.setIfInBounds_toArray, List.set_cons_zero, List.set_cons_succ, i64_w, i32_w]
  rfl
 refine done_ (done_of HT_.out (by kernel_rfl)) ?_
 try go_wp2
 go_ret2
 exact ⟨by first | rfl | (simp [errW_none, errW_some] <;> rfl) | (simp [*, errW_none, errW_some] <;> rfl), by exact XPrint.bz HB.out⟩

/-! ### vec_made_at_vec_Max_1: function 30052 -/
def vec_made_at_vec_Max_1.f (a0_0 : Int) (a0_1 : Int) (a1_0 : Int) (a1_1 : Int)  : Option (Int × Int) := (vec_both_int64_at_vec_Max_1.f a0_0 a0_1 a1_0 a1_1).bind fun bt177 => (some (bt177.1, bt177.2))
set_option maxHeartbeats 8000000 in
set_option maxRecDepth 100000 in
theorem vec_made_at_vec_Max_1.calls (a0_0 : Int) (a0_1 : Int) (a1_0 : Int) (a1_1 : Int)  (r1 : Int) (r2 : Int) (w : World) (h : vec_made_at_vec_Max_1.f a0_0 a0_1 a1_0 a1_1 = some (r1, r2)) :
  Calls Try.prog 52 #[.agg #[.int .i64 a0_0, .int .i64 a0_1], .agg #[.int .i64 a1_0, .int .i64 a1_1], .func (.func 61) #[] #[]] w fun e w' => e = .returned (.agg #[.int .i64 r1, .int .i64 r2]) ∧ Below w.heap.size w w' := by
 have hu23 := Try.underlying23
 have HB := XPrint.A0 (Below.refl w.heap.size w)
 have H : ((vec_both_int64_at_vec_Max_1.f a0_0 a0_1 a1_0 a1_1).bind fun bt177 => (some (bt177.1, bt177.2))) = some (r1, r2) := h
 clear h
 replace H := Option.bind_eq_some_iff.mp H
 obtain ⟨⟨t177, t178⟩, A40, H⟩ := H
 replace H : (some (t177, t178)) = some (r1, r2) := H
 have A4 := XPrint.A0 A40
 clear A40
 simp only [Option.some.injEq, Prod.mk.injEq] at H
 obtain ⟨rfl, rfl⟩ := H
 go_enter Try.func52, Try.ntmps52
 go_wp2_with (first | ((with_reducible refine gate_dst (N := 3) rfl ?_); refine box_event ?hg (N := 3) ?hd (cs := #[.int .i64 a0_0, .int .i64 a0_1]) (t := 23) ?hr ?_; (case hd => rfl); (case hg => rfl); (case hr => first | (go_simp; done) | (go_simp; rfl)); intro gb174 hg w5 hbox hb; have n0_ := XPrint.A0 (below_step (by exact XPrint.bz HB.out) hb); have n1_ := XPrint.A0 (hbox); have n2_ := XPrint.A0 ((by rw [hg]; exact (below_size (by exact XPrint.bz HB.out)) : w.heap.size ≤ gb174)); have n3_ := XPrint.A0 ((by rw [hg]; exact (below_size (by exact XPrint.bz HB.out)) : w.heap.size ≤ gb174)); clear HB; have HB := n0_; have BK174 := n1_; have GW174 := n2_; have GE174 := n3_; clear n0_ n1_ n2_ n3_; clear hb hbox hg) | ((with_reducible refine gate_dst (N := 4) rfl ?_); refine box_event ?hg (N := 4) ?hd (cs := #[.int .i64 a1_0, .int .i64 a1_1]) (t := 23) ?hr ?_; (case hd => rfl); (case hg => rfl); (case hr => first | (go_simp; done) | (go_simp; rfl)); intro gb175 hg w6 hbox hb; have n0_ := XPrint.A0 (XPrint.bb BK174.out hb); have n1_ := XPrint.A0 (below_step (by exact XPrint.bz HB.out) hb); have n2_ := XPrint.A0 (hbox); have n3_ := XPrint.A0 ((by rw [hg]; exact (below_size (by exact XPrint.bz HB.out)) : w.heap.size ≤ gb175)); have n4_ := XPrint.A0 ((by rw [hg]; exact (below_size (by exact XPrint.bz HB.out)) : w.heap.size ≤ gb175)); have n5_ := XPrint.A0 ((by rw [hg]; exact Nat.ne_of_lt (XPrint.bl BK174.out) : gb174 ≠ gb175)); have n6_ := XPrint.A0 ((by rw [hg]; exact Nat.ne_of_gt (XPrint.bl BK174.out) : gb175 ≠ gb174)); clear BK174; clear HB; have BK174 := n0_; have HB := n1_; have BK175 := n2_; have GW175 := n3_; have GE175 := n4_; have NB174_175 := n5_; have NB175_174 := n6_; clear n0_ n1_ n2_ n3_ n4_ n5_ n6_; clear hb hbox hg) | ((with_reducible refine gate_dst (N := 6) rfl ?_); refine box_event ?hg (N := 6) ?hd (cs := #[.int .i64 0, .int .i64 0]) (t := 23) ?hr ?_; (case hd => rfl); (case hg => rfl); (case hr => first | (go_simp; done) | (go_simp; rfl)); intro gb176 hg w7 hbox hb; have n0_ := XPrint.A0 (XPrint.bb BK174.out hb); have n1_ := XPrint.A0 (XPrint.bb BK175.out hb); have n2_ := XPrint.A0 (below_step (by exact XPrint.bz HB.out) hb); have n3_ := XPrint.A0 (hbox); have n4_ := XPrint.A0 ((by rw [hg]; exact (below_size (by exact XPrint.bz HB.out)) : w.heap.size ≤ gb176)); have n5_ := XPrint.A0 ((by rw [hg]; exact (below_size (by exact XPrint.bz HB.out)) : w.heap.size ≤ gb176)); have n6_ := XPrint.A0 ((by rw [hg]; exact Nat.ne_of_lt (XPrint.bl BK174.out) : gb174 ≠ gb176)); have n7_ := XPrint.A0 ((by rw [hg]; exact Nat.ne_of_gt (XPrint.bl BK174.out) : gb176 ≠ gb174)); have n8_ := XPrint.A0 ((by rw [hg]; exact Nat.ne_of_lt (XPrint.bl BK175.out) : gb175 ≠ gb176)); have n9_ := XPrint.A0 ((by rw [hg]; exact Nat.ne_of_gt (XPrint.bl BK175.out) : gb176 ≠ gb175)); clear BK174; clear BK175; clear HB; have BK174 := n0_; have BK175 := n1_; have HB := n2_; have BK176 := n3_; have GW176 := n4_; have GE176 := n5_; have NB174_176 := n6_; have NB176_174 := n7_; have NB175_176 := n8_; have NB176_175 := n9_; clear n0_ n1_ n2_ n3_ n4_ n5_ n6_ n7_ n8_ n9_; clear hb hbox hg; have hnb8 := NB174_175.out; have hnc8 := NB175_174.out; have hnb9 := NB174_176.out; have hnc9 := NB176_174.out; have hcz10_0 : w7.cell? ⟨gb174, 0, none⟩ = some (.int .i64 a0_0) := (blk_cell BK174.out 0).trans rfl; have hcz10_1 : w7.cell? ⟨gb174, 1, none⟩ = some (.int .i64 a0_1) := (blk_cell BK174.out 1).trans rfl; have hfz10_0 := blk_frozen BK174.out 0; have hfz10_1 := blk_frozen BK174.out 1; have hnb11 := NB175_176.out; have hnc11 := NB176_175.out; have hcz12_0 : w7.cell? ⟨gb175, 0, none⟩ = some (.int .i64 a1_0) := (blk_cell BK175.out 0).trans rfl; have hcz12_1 : w7.cell? ⟨gb175, 1, none⟩ = some (.int .i64 a1_1) := (blk_cell BK175.out 1).trans rfl; have hfz12_0 := blk_frozen BK175.out 0; have hfz12_1 := blk_frozen BK175.out 1) | ((with_reducible refine gate_callee (f := 58) rfl ?_); refine goesL_ (some 13) rfl rfl Try.func58 (by kernel_rfl) rfl #[.agg #[.int .i64 a0_0, .int .i64 a0_1], .agg #[.int .i64 a1_0, .int .i64 a1_1], (.func (.func 61) #[] #[])] rfl (by (try simp only [List.map_toArray, List.map_cons, List.map_nil]); first | done | rfl | (simp only [List.length_drop, List.length_take]; rfl)) ?_; (with_reducible refine (vec_both_int64_at_vec_Max_1.calls a0_0 a0_1 a1_0 a1_1  t177 t178 _ A4.out).mono ?_); rintro e w13 ⟨rfl, hb⟩; refine ⟨_, rfl, ?_⟩; have n0_ := XPrint.A0 (XPrint.bb BK174.out hb); have n1_ := XPrint.A0 (XPrint.bb BK175.out hb); have n2_ := XPrint.A0 (XPrint.bb BK176.out hb); have n3_ := XPrint.A0 (below_step (by exact XPrint.bz HB.out) hb); clear BK174; clear BK175; clear BK176; clear HB; have BK174 := n0_; have BK175 := n1_; have BK176 := n2_; have HB := n3_; clear n0_ n1_ n2_ n3_; (try clear hb); (try clear hb2); (try clear hk); (try clear hi); have hcz14_0 : w13.cell? ⟨gb176, 0, none⟩ = some (.int .i64 0) := (blk_cell BK176.out 0).trans rfl; have hcz14_1 : w13.cell? ⟨gb176, 1, none⟩ = some (.int .i64 0) := (blk_cell BK176.out 1).trans rfl; have hfz14_0 := blk_frozen BK176.out 0; have hfz14_1 := blk_frozen BK176.out 1))
 refine bodyPost_ret (results_cell_row rfl _ _ gb176 23 #[.int .i64 t177, .int .i64 t178] (0, 0) _ rfl (by (with_reducible repeat (first | refine blk_drewN ?_ _ | refine blk_drew ?_ | refine blk_alloc ?_ _)); refine blk_put (cs := #[.int .i64 t177, .int .i64 0]) ?_ 1 _ rfl; (with_reducible repeat (first | refine blk_drewN ?_ _ | refine blk_drew ?_ | refine blk_alloc ?_ _)); refine blk_put (cs := #[.int .i64 0, .int .i64 0]) ?_ 0 _ rfl; (with_reducible repeat (first | refine blk_drewN ?_ _ | refine blk_drew ?_ | refine blk_alloc ?_ _)); exact BK176.out) Try.underlying23 rfl (by kernel_rfl)) rfl ?_
 exact ⟨by first | rfl | (simp [errW_none, errW_some] <;> rfl) | (simp [*, errW_none, errW_some] <;> rfl), by repeat (first | (with_reducible first | exact HB.out | apply below_alloc | apply pw_below_drewN | apply below_drew1 | refine below_set ?_ GE174.out | refine below_set ?_ GE175.out | refine below_set ?_ GE176.out) | exact HB.out)⟩

/-! ### vec_Max: function 24 -/
def vec_Max.f (a0_0 : Int) (a0_1 : Int) (a1_0 : Int) (a1_1 : Int) : Option (Int × Int) := (vec_made_at_vec_Max_1.f a0_0 a0_1 a1_0 a1_1).bind fun bt182 => (some (bt182.1, bt182.2))
set_option maxHeartbeats 8000000 in
set_option maxRecDepth 100000 in
theorem vec_Max.calls (a0_0 : Int) (a0_1 : Int) (a1_0 : Int) (a1_1 : Int) (r1 : Int) (r2 : Int) (w : World) (h : vec_Max.f a0_0 a0_1 a1_0 a1_1 = some (r1, r2)) :
  Calls Try.prog 24 #[.agg #[.int .i64 a0_0, .int .i64 a0_1], .agg #[.int .i64 a1_0, .int .i64 a1_1]] w fun e w' => e = .returned (.agg #[.int .i64 r1, .int .i64 r2]) ∧ Below w.heap.size w w' := by
 have hu23 := Try.underlying23
 have HB := XPrint.A0 (Below.refl w.heap.size w)
 have H : ((vec_made_at_vec_Max_1.f a0_0 a0_1 a1_0 a1_1).bind fun bt182 => (some (bt182.1, bt182.2))) = some (r1, r2) := h
 clear h
 replace H := Option.bind_eq_some_iff.mp H
 obtain ⟨⟨t182, t183⟩, A30, H⟩ := H
 replace H : (some (t182, t183)) = some (r1, r2) := H
 have A3 := XPrint.A0 A30
 clear A30
 simp only [Option.some.injEq, Prod.mk.injEq] at H
 obtain ⟨rfl, rfl⟩ := H
 go_enter Try.func24, Try.ntmps24
 go_wp2_with (first | ((with_reducible refine gate_dst (N := 2) rfl ?_); refine box_event ?hg (N := 2) ?hd (cs := #[.int .i64 a0_0, .int .i64 a0_1]) (t := 23) ?hr ?_; (case hd => rfl); (case hg => rfl); (case hr => first | (go_simp; done) | (go_simp; rfl)); intro gb179 hg w4 hbox hb; have n0_ := XPrint.A0 (below_step (by exact XPrint.bz HB.out) hb); have n1_ := XPrint.A0 (hbox); have n2_ := XPrint.A0 ((by rw [hg]; exact (below_size (by exact XPrint.bz HB.out)) : w.heap.size ≤ gb179)); have n3_ := XPrint.A0 ((by rw [hg]; exact (below_size (by exact XPrint.bz HB.out)) : w.heap.size ≤ gb179)); clear HB; have HB := n0_; have BK179 := n1_; have GW179 := n2_; have GE179 := n3_; clear n0_ n1_ n2_ n3_; clear hb hbox hg) | ((with_reducible refine gate_dst (N := 3) rfl ?_); refine box_event ?hg (N := 3) ?hd (cs := #[.int .i64 a1_0, .int .i64 a1_1]) (t := 23) ?hr ?_; (case hd => rfl); (case hg => rfl); (case hr => first | (go_simp; done) | (go_simp; rfl)); intro gb180 hg w5 hbox hb; have n0_ := XPrint.A0 (XPrint.bb BK179.out hb); have n1_ := XPrint.A0 (below_step (by exact XPrint.bz HB.out) hb); have n2_ := XPrint.A0 (hbox); have n3_ := XPrint.A0 ((by rw [hg]; exact (below_size (by exact XPrint.bz HB.out)) : w.heap.size ≤ gb180)); have n4_ := XPrint.A0 ((by rw [hg]; exact (below_size (by exact XPrint.bz HB.out)) : w.heap.size ≤ gb180)); have n5_ := XPrint.A0 ((by rw [hg]; exact Nat.ne_of_lt (XPrint.bl BK179.out) : gb179 ≠ gb180)); have n6_ := XPrint.A0 ((by rw [hg]; exact Nat.ne_of_gt (XPrint.bl BK179.out) : gb180 ≠ gb179)); clear BK179; clear HB; have BK179 := n0_; have HB := n1_; have BK180 := n2_; have GW180 := n3_; have GE180 := n4_; have NB179_180 := n5_; have NB180_179 := n6_; clear n0_ n1_ n2_ n3_ n4_ n5_ n6_; clear hb hbox hg) | ((with_reducible refine gate_dst (N := 4) rfl ?_); refine box_event ?hg (N := 4) ?hd (cs := #[.int .i64 0, .int .i64 0]) (t := 23) ?hr ?_; (case hd => rfl); (case hg => rfl); (case hr => first | (go_simp; done) | (go_simp; rfl)); intro gb181 hg w6 hbox hb; have n0_ := XPrint.A0 (XPrint.bb BK179.out hb); have n1_ := XPrint.A0 (XPrint.bb BK180.out hb); have n2_ := XPrint.A0 (below_step (by exact XPrint.bz HB.out) hb); have n3_ := XPrint.A0 (hbox); have n4_ := XPrint.A0 ((by rw [hg]; exact (below_size (by exact XPrint.bz HB.out)) : w.heap.size ≤ gb181)); have n5_ := XPrint.A0 ((by rw [hg]; exact (below_size (by exact XPrint.bz HB.out)) : w.heap.size ≤ gb181)); have n6_ := XPrint.A0 ((by rw [hg]; exact Nat.ne_of_lt (XPrint.bl BK179.out) : gb179 ≠ gb181)); have n7_ := XPrint.A0 ((by rw [hg]; exact Nat.ne_of_gt (XPrint.bl BK179.out) : gb181 ≠ gb179)); have n8_ := XPrint.A0 ((by rw [hg]; exact Nat.ne_of_lt (XPrint.bl BK180.out) : gb180 ≠ gb181)); have n9_ := XPrint.A0 ((by rw [hg]; exact Nat.ne_of_gt (XPrint.bl BK180.out) : gb181 ≠ gb180)); clear BK179; clear BK180; clear HB; have BK179 := n0_; have BK180 := n1_; have HB := n2_; have BK181 := n3_; have GW181 := n4_; have GE181 := n5_; have NB179_181 := n6_; have NB181_179 := n7_; have NB180_181 := n8_; have NB181_180 := n9_; clear n0_ n1_ n2_ n3_ n4_ n5_ n6_ n7_ n8_ n9_; clear hb hbox hg; have hnb7 := NB179_180.out; have hnc7 := NB180_179.out; have hnb8 := NB179_181.out; have hnc8 := NB181_179.out; have hcz9_0 : w6.cell? ⟨gb179, 0, none⟩ = some (.int .i64 a0_0) := (blk_cell BK179.out 0).trans rfl; have hcz9_1 : w6.cell? ⟨gb179, 1, none⟩ = some (.int .i64 a0_1) := (blk_cell BK179.out 1).trans rfl; have hfz9_0 := blk_frozen BK179.out 0; have hfz9_1 := blk_frozen BK179.out 1; have hnb10 := NB180_181.out; have hnc10 := NB181_180.out; have hcz11_0 : w6.cell? ⟨gb180, 0, none⟩ = some (.int .i64 a1_0) := (blk_cell BK180.out 0).trans rfl; have hcz11_1 : w6.cell? ⟨gb180, 1, none⟩ = some (.int .i64 a1_1) := (blk_cell BK180.out 1).trans rfl; have hfz11_0 := blk_frozen BK180.out 0; have hfz11_1 := blk_frozen BK180.out 1) | ((with_reducible refine gate_callee (f := 52) rfl ?_); refine goesL_ (some 7) rfl rfl Try.func52 (by kernel_rfl) rfl #[.agg #[.int .i64 a0_0, .int .i64 a0_1], .agg #[.int .i64 a1_0, .int .i64 a1_1], (.func (.func 61) #[] #[])] rfl (by (try simp only [List.map_toArray, List.map_cons, List.map_nil]); first | done | rfl | (simp only [List.length_drop, List.length_take]; rfl)) ?_; (with_reducible refine (vec_made_at_vec_Max_1.calls a0_0 a0_1 a1_0 a1_1  t182 t183 _ A3.out).mono ?_); rintro e w12 ⟨rfl, hb⟩; refine ⟨_, rfl, ?_⟩; have n0_ := XPrint.A0 (XPrint.bb BK179.out hb); have n1_ := XPrint.A0 (XPrint.bb BK180.out hb); have n2_ := XPrint.A0 (XPrint.bb BK181.out hb); have n3_ := XPrint.A0 (below_step (by exact XPrint.bz HB.out) hb); clear BK179; clear BK180; clear BK181; clear HB; have BK179 := n0_; have BK180 := n1_; have BK181 := n2_; have HB := n3_; clear n0_ n1_ n2_ n3_; (try clear hb); (try clear hb2); (try clear hk); (try clear hi); have hcz13_0 : w12.cell? ⟨gb181, 0, none⟩ = some (.int .i64 0) := (blk_cell BK181.out 0).trans rfl; have hcz13_1 : w12.cell? ⟨gb181, 1, none⟩ = some (.int .i64 0) := (blk_cell BK181.out 1).trans rfl; have hfz13_0 := blk_frozen BK181.out 0; have hfz13_1 := blk_frozen BK181.out 1))
 refine bodyPost_ret (results_cell_row rfl _ _ gb181 23 #[.int .i64 t182, .int .i64 t183] (0, 0) _ rfl (by (with_reducible repeat (first | refine blk_drewN ?_ _ | refine blk_drew ?_ | refine blk_alloc ?_ _)); refine blk_put (cs := #[.int .i64 t182, .int .i64 0]) ?_ 1 _ rfl; (with_reducible repeat (first | refine blk_drewN ?_ _ | refine blk_drew ?_ | refine blk_alloc ?_ _)); refine blk_put (cs := #[.int .i64 0, .int .i64 0]) ?_ 0 _ rfl; (with_reducible repeat (first | refine blk_drewN ?_ _ | refine blk_drew ?_ | refine blk_alloc ?_ _)); exact BK181.out) Try.underlying23 rfl (by kernel_rfl)) rfl ?_
 exact ⟨by first | rfl | (simp [errW_none, errW_some] <;> rfl) | (simp [*, errW_none, errW_some] <;> rfl), by repeat (first | (with_reducible first | exact HB.out | apply below_alloc | apply pw_below_drewN | apply below_drew1 | refine below_set ?_ GE179.out | refine below_set ?_ GE180.out | refine below_set ?_ GE181.out) | exact HB.out)⟩

/-! ### vec_Add_1: function 64 -/
def vec_Add_1.f (a0 : Int) (a1 : Int) : Option (Int) := some (wrap64 (a0 + a1))
set_option maxHeartbeats 8000000 in
set_option maxRecDepth 100000 in
theorem vec_Add_1.calls (a0 : Int) (a1 : Int) (r : Int) (w : World) (h : vec_Add_1.f a0 a1 = some r) :
  Calls Try.prog 64 #[.int .i64 a0, .int .i64 a1] w fun e w' => e = .returned (.int .i64 r) ∧ Drawn0 w w' := by
 have H : (some (wrap64 (a0 + a1))) = some r := h
 clear h
 obtain rfl := Option.some.inj H
 go_enter Try.func64, Try.ntmps64
 go_wp2
 go_ret
 exact ⟨by first | rfl | (simp; done) | (simp [*]; done), by repeat (first | exact Drawn0.refl _ | apply Drawn0.step)⟩

/-! ### vec_both_int64_at_vec_Add_1: function 50058 -/
def vec_both_int64_at_vec_Add_1.f (a0_0 : Int) (a0_1 : Int) (a1_0 : Int) (a1_1 : Int)  : Option (Int × Int) := (vec_Add_1.f a0_0 a1_0).bind fun t186 => ((vec_Add_1.f a0_1 a1_1).bind fun t187 => (some (t186, t187)))
set_option maxHeartbeats 8000000 in
set_option maxRecDepth 100000 in
theorem vec_both_int64_at_vec_Add_1.calls (a0_0 : Int) (a0_1 : Int) (a1_0 : Int) (a1_1 : Int)  (r1 : Int) (r2 : Int) (w : World) (h : vec_both_int64_at_vec_Add_1.f a0_0 a0_1 a1_0 a1_1 = some (r1, r2)) :
  Calls Try.prog 58 #[.agg #[.int .i64 a0_0, .int .i64 a0_1], .agg #[.int .i64 a1_0, .int .i64 a1_1], .func (.func 64) #[] #[]] w fun e w' => e = .returned (.tuple #[.int .i64 r1, .int .i64 r2]) ∧ Below w.heap.size w w' := by
 have hu23 := Try.underlying23
 have HB := XPrint.A0 (Below.refl w.heap.size w)
 have H : ((vec_Add_1.f a0_0 a1_0).bind fun t186 => ((vec_Add_1.f a0_1 a1_1).bind fun t187 => (some (t186, t187)))) = some (r1, r2) := h
 clear h
 replace H := Option.bind_eq_some_iff.mp H
 obtain ⟨t186, A40, H⟩ := H
 replace H : ((vec_Add_1.f a0_1 a1_1).bind fun t187 => (some (t186, t187))) = some (r1, r2) := H
 have A4 := XPrint.A0 A40
 clear A40
 replace H := Option.bind_eq_some_iff.mp H
 obtain ⟨t187, A50, H⟩ := H
 replace H : (some (t186, t187)) = some (r1, r2) := H
 have A5 := XPrint.A0 A50
 clear A50
 simp only [Option.some.injEq, Prod.mk.injEq] at H
 obtain ⟨rfl, rfl⟩ := H
 go_enter Try.func58, Try.ntmps58
 go_wp2_with (first | ((with_reducible refine gate_dst (N := 3) rfl ?_); refine box_event ?hg (N := 3) ?hd (cs := #[.int .i64 a0_0, .int .i64 a0_1]) (t := 23) ?hr ?_; (case hd => rfl); (case hg => rfl); (case hr => first | (go_simp; done) | (go_simp; rfl)); intro gb184 hg w6 hbox hb; have n0_ := XPrint.A0 (below_step (by exact XPrint.bz HB.out) hb); have n1_ := XPrint.A0 (hbox); have n2_ := XPrint.A0 ((by rw [hg]; exact (below_size (by exact XPrint.bz HB.out)) : w.heap.size ≤ gb184)); have n3_ := XPrint.A0 ((by rw [hg]; exact (below_size (by exact XPrint.bz HB.out)) : w.heap.size ≤ gb184)); clear HB; have HB := n0_; have BK184 := n1_; have GW184 := n2_; have GE184 := n3_; clear n0_ n1_ n2_ n3_; clear hb hbox hg) | ((with_reducible refine gate_dst (N := 4) rfl ?_); refine box_event ?hg (N := 4) ?hd (cs := #[.int .i64 a1_0, .int .i64 a1_1]) (t := 23) ?hr ?_; (case hd => rfl); (case hg => rfl); (case hr => first | (go_simp; done) | (go_simp; rfl)); intro gb185 hg w7 hbox hb; have n0_ := XPrint.A0 (XPrint.bb BK184.out hb); have n1_ := XPrint.A0 (below_step (by exact XPrint.bz HB.out) hb); have n2_ := XPrint.A0 (hbox); have n3_ := XPrint.A0 ((by rw [hg]; exact (below_size (by exact XPrint.bz HB.out)) : w.heap.size ≤ gb185)); have n4_ := XPrint.A0 ((by rw [hg]; exact (below_size (by exact XPrint.bz HB.out)) : w.heap.size ≤ gb185)); have n5_ := XPrint.A0 ((by rw [hg]; exact Nat.ne_of_lt (XPrint.bl BK184.out) : gb184 ≠ gb185)); have n6_ := XPrint.A0 ((by rw [hg]; exact Nat.ne_of_gt (XPrint.bl BK184.out) : gb185 ≠ gb184)); clear BK184; clear HB; have BK184 := n0_; have HB := n1_; have BK185 := n2_; have GW185 := n3_; have GE185 := n4_; have NB184_185 := n5_; have NB185_184 := n6_; clear n0_ n1_ n2_ n3_ n4_ n5_ n6_; clear hb hbox hg; have hnb8 := NB184_185.out; have hnc8 := NB185_184.out; have hcz9_0 : w7.cell? ⟨gb184, 0, none⟩ = some (.int .i64 a0_0) := (blk_cell BK184.out 0).trans rfl; have hcz9_1 : w7.cell? ⟨gb184, 1, none⟩ = some (.int .i64 a0_1) := (blk_cell BK184.out 1).trans rfl; have hfz9_0 := blk_frozen BK184.out 0; have hfz9_1 := blk_frozen BK184.out 1; have hcz10_0 : w7.cell? ⟨gb185, 0, none⟩ = some (.int .i64 a1_0) := (blk_cell BK185.out 0).trans rfl; have hcz10_1 : w7.cell? ⟨gb185, 1, none⟩ = some (.int .i64 a1_1) := (blk_cell BK185.out 1).trans rfl; have hfz10_0 := blk_frozen BK185.out 0; have hfz10_1 := blk_frozen BK185.out 1) | (go_at_call 64; (with_reducible refine (vec_Add_1.calls a0_0 a1_0 t186 _ A4.out).mono ?_); rintro e w' ⟨rfl, ⟨nd, rfl⟩⟩; (try first | exact ⟨rfl, _, World.drewN_drewN _ _ _⟩ | exact ⟨rfl, _, Eq.trans (World.drewN_drewN _ _ _) (congrArg (World.drewN _) (Nat.add_assoc _ _ _))⟩)) | (go_at_call 64; (with_reducible refine (vec_Add_1.calls a0_1 a1_1 t187 _ A5.out).mono ?_); rintro e w' ⟨rfl, ⟨nd, rfl⟩⟩; (try first | exact ⟨rfl, _, World.drewN_drewN _ _ _⟩ | exact ⟨rfl, _, Eq.trans (World.drewN_drewN _ _ _) (congrArg (World.drewN _) (Nat.add_assoc _ _ _))⟩)))
 repeat (go_quiet (first | ((with_reducible refine gate_dst (N := 3) rfl ?_); refine box_event ?hg (N := 3) ?hd (cs := #[.int .i64 a0_0, .int .i64 a0_1]) (t := 23) ?hr ?_; (case hd => rfl); (case hg => rfl); (case hr => first | (go_simp; done) | (go_simp; rfl)); intro gb184 hg w6 hbox hb; have n0_ := XPrint.A0 (below_step (by exact XPrint.bz HB.out) hb); have n1_ := XPrint.A0 (hbox); have n2_ := XPrint.A0 ((by rw [hg]; exact (below_size (by exact XPrint.bz HB.out)) : w.heap.size ≤ gb184)); have n3_ := XPrint.A0 ((by rw [hg]; exact (below_size (by exact XPrint.bz HB.out)) : w.heap.size ≤ gb184)); clear HB; have HB := n0_; have BK184 := n1_; have GW184 := n2_; have GE184 := n3_; clear n0_ n1_ n2_ n3_; clear hb hbox hg) | ((with_reducible refine gate_dst (N := 4) rfl ?_); refine box_event ?hg (N := 4) ?hd (cs := #[.int .i64 a1_0, .int .i64 a1_1]) (t := 23) ?hr ?_; (case hd => rfl); (case hg => rfl); (case hr => first | (go_simp; done) | (go_simp; rfl)); intro gb185 hg w7 hbox hb; have n0_ := XPrint.A0 (XPrint.bb BK184.out hb); have n1_ := XPrint.A0 (below_step (by exact XPrint.bz HB.out) hb); have n2_ := XPrint.A0 (hbox); have n3_ := XPrint.A0 ((by rw [hg]; exact (below_size (by exact XPrint.bz HB.out)) : w.heap.size ≤ gb185)); have n4_ := XPrint.A0 ((by rw [hg]; exact (below_size (by exact XPrint.bz HB.out)) : w.heap.size ≤ gb185)); have n5_ := XPrint.A0 ((by rw [hg]; exact Nat.ne_of_lt (XPrint.bl BK184.out) : gb184 ≠ gb185)); have n6_ := XPrint.A0 ((by rw [hg]; exact Nat.ne_of_gt (XPrint.bl BK184.out) : gb185 ≠ gb184)); clear BK184; clear HB; have BK184 := n0_; have HB := n1_; have BK185 := n2_; have GW185 := n3_; have GE185 := n4_; have NB184_185 := n5_; have NB185_184 := n6_; clear n0_ n1_ n2_ n3_ n4_ n5_ n6_; clear hb hbox hg; have hnb8 := NB184_185.out; have hnc8 := NB185_184.out; have hcz9_0 : w7.cell? ⟨gb184, 0, none⟩ = some (.int .i64 a0_0) := (blk_cell BK184.out 0).trans rfl; have hcz9_1 : w7.cell? ⟨gb184, 1, none⟩ = some (.int .i64 a0_1) := (blk_cell BK184.out 1).trans rfl; have hfz9_0 := blk_frozen BK184.out 0; have hfz9_1 := blk_frozen BK184.out 1; have hcz10_0 : w7.cell? ⟨gb185, 0, none⟩ = some (.int .i64 a1_0) := (blk_cell BK185.out 0).trans rfl; have hcz10_1 : w7.cell? ⟨gb185, 1, none⟩ = some (.int .i64 a1_1) := (blk_cell BK185.out 1).trans rfl; have hfz10_0 := blk_frozen BK185.out 0; have hfz10_1 := blk_frozen BK185.out 1) | (go_at_call 64; (with_reducible refine (vec_Add_1.calls a0_0 a1_0 t186 _ A4.out).mono ?_); rintro e w' ⟨rfl, ⟨nd, rfl⟩⟩; (try first | exact ⟨rfl, _, World.drewN_drewN _ _ _⟩ | exact ⟨rfl, _, Eq.trans (World.drewN_drewN _ _ _) (congrArg (World.drewN _) (Nat.add_assoc _ _ _))⟩)) | (go_at_call 64; (with_reducible refine (vec_Add_1.calls a0_1 a1_1 t187 _ A5.out).mono ?_); rintro e w' ⟨rfl, ⟨nd, rfl⟩⟩; (try first | exact ⟨rfl, _, World.drewN_drewN _ _ _⟩ | exact ⟨rfl, _, Eq.trans (World.drewN_drewN _ _ _) (congrArg (World.drewN _) (Nat.add_assoc _ _ _))⟩))); try go_wp2_with (first | ((with_reducible refine gate_dst (N := 3) rfl ?_); refine box_event ?hg (N := 3) ?hd (cs := #[.int .i64 a0_0, .int .i64 a0_1]) (t := 23) ?hr ?_; (case hd => rfl); (case hg => rfl); (case hr => first | (go_simp; done) | (go_simp; rfl)); intro gb184 hg w6 hbox hb; have n0_ := XPrint.A0 (below_step (by exact XPrint.bz HB.out) hb); have n1_ := XPrint.A0 (hbox); have n2_ := XPrint.A0 ((by rw [hg]; exact (below_size (by exact XPrint.bz HB.out)) : w.heap.size ≤ gb184)); have n3_ := XPrint.A0 ((by rw [hg]; exact (below_size (by exact XPrint.bz HB.out)) : w.heap.size ≤ gb184)); clear HB; have HB := n0_; have BK184 := n1_; have GW184 := n2_; have GE184 := n3_; clear n0_ n1_ n2_ n3_; clear hb hbox hg) | ((with_reducible refine gate_dst (N := 4) rfl ?_); refine box_event ?hg (N := 4) ?hd (cs := #[.int .i64 a1_0, .int .i64 a1_1]) (t := 23) ?hr ?_; (case hd => rfl); (case hg => rfl); (case hr => first | (go_simp; done) | (go_simp; rfl)); intro gb185 hg w7 hbox hb; have n0_ := XPrint.A0 (XPrint.bb BK184.out hb); have n1_ := XPrint.A0 (below_step (by exact XPrint.bz HB.out) hb); have n2_ := XPrint.A0 (hbox); have n3_ := XPrint.A0 ((by rw [hg]; exact (below_size (by exact XPrint.bz HB.out)) : w.heap.size ≤ gb185)); have n4_ := XPrint.A0 ((by rw [hg]; exact (below_size (by exact XPrint.bz HB.out)) : w.heap.size ≤ gb185)); have n5_ := XPrint.A0 ((by rw [hg]; exact Nat.ne_of_lt (XPrint.bl BK184.out) : gb184 ≠ gb185)); have n6_ := XPrint.A0 ((by rw [hg]; exact Nat.ne_of_gt (XPrint.bl BK184.out) : gb185 ≠ gb184)); clear BK184; clear HB; have BK184 := n0_; have HB := n1_; have BK185 := n2_; have GW185 := n3_; have GE185 := n4_; have NB184_185 := n5_; have NB185_184 := n6_; clear n0_ n1_ n2_ n3_ n4_ n5_ n6_; clear hb hbox hg; have hnb8 := NB184_185.out; have hnc8 := NB185_184.out; have hcz9_0 : w7.cell? ⟨gb184, 0, none⟩ = some (.int .i64 a0_0) := (blk_cell BK184.out 0).trans rfl; have hcz9_1 : w7.cell? ⟨gb184, 1, none⟩ = some (.int .i64 a0_1) := (blk_cell BK184.out 1).trans rfl; have hfz9_0 := blk_frozen BK184.out 0; have hfz9_1 := blk_frozen BK184.out 1; have hcz10_0 : w7.cell? ⟨gb185, 0, none⟩ = some (.int .i64 a1_0) := (blk_cell BK185.out 0).trans rfl; have hcz10_1 : w7.cell? ⟨gb185, 1, none⟩ = some (.int .i64 a1_1) := (blk_cell BK185.out 1).trans rfl; have hfz10_0 := blk_frozen BK185.out 0; have hfz10_1 := blk_frozen BK185.out 1) | (go_at_call 64; (with_reducible refine (vec_Add_1.calls a0_0 a1_0 t186 _ A4.out).mono ?_); rintro e w' ⟨rfl, ⟨nd, rfl⟩⟩; (try first | exact ⟨rfl, _, World.drewN_drewN _ _ _⟩ | exact ⟨rfl, _, Eq.trans (World.drewN_drewN _ _ _) (congrArg (World.drewN _) (Nat.add_assoc _ _ _))⟩)) | (go_at_call 64; (with_reducible refine (vec_Add_1.calls a0_1 a1_1 t187 _ A5.out).mono ?_); rintro e w' ⟨rfl, ⟨nd, rfl⟩⟩; (try first | exact ⟨rfl, _, World.drewN_drewN _ _ _⟩ | exact ⟨rfl, _, Eq.trans (World.drewN_drewN _ _ _) (congrArg (World.drewN _) (Nat.add_assoc _ _ _))⟩))))
 go_ret2
 exact ⟨by first | rfl | (simp [errW_none, errW_some] <;> rfl) | (simp [*, errW_none, errW_some] <;> rfl), by exact XPrint.bz HB.out⟩

/-! ### vec_made_at_vec_Add_1: function 40052 -/
def vec_made_at_vec_Add_1.f (a0_0 : Int) (a0_1 : Int) (a1_0 : Int) (a1_1 : Int)  : Option (Int × Int) := (vec_both_int64_at_vec_Add_1.f a0_0 a0_1 a1_0 a1_1).bind fun bt191 => (some (bt191.1, bt191.2))
set_option maxHeartbeats 8000000 in
set_option maxRecDepth 100000 in
theorem vec_made_at_vec_Add_1.calls (a0_0 : Int) (a0_1 : Int) (a1_0 : Int) (a1_1 : Int)  (r1 : Int) (r2 : Int) (w : World) (h : vec_made_at_vec_Add_1.f a0_0 a0_1 a1_0 a1_1 = some (r1, r2)) :
  Calls Try.prog 52 #[.agg #[.int .i64 a0_0, .int .i64 a0_1], .agg #[.int .i64 a1_0, .int .i64 a1_1], .func (.func 64) #[] #[]] w fun e w' => e = .returned (.agg #[.int .i64 r1, .int .i64 r2]) ∧ Below w.heap.size w w' := by
 have hu23 := Try.underlying23
 have HB := XPrint.A0 (Below.refl w.heap.size w)
 have H : ((vec_both_int64_at_vec_Add_1.f a0_0 a0_1 a1_0 a1_1).bind fun bt191 => (some (bt191.1, bt191.2))) = some (r1, r2) := h
 clear h
 replace H := Option.bind_eq_some_iff.mp H
 obtain ⟨⟨t191, t192⟩, A40, H⟩ := H
 replace H : (some (t191, t192)) = some (r1, r2) := H
 have A4 := XPrint.A0 A40
 clear A40
 simp only [Option.some.injEq, Prod.mk.injEq] at H
 obtain ⟨rfl, rfl⟩ := H
 go_enter Try.func52, Try.ntmps52
 go_wp2_with (first | ((with_reducible refine gate_dst (N := 3) rfl ?_); refine box_event ?hg (N := 3) ?hd (cs := #[.int .i64 a0_0, .int .i64 a0_1]) (t := 23) ?hr ?_; (case hd => rfl); (case hg => rfl); (case hr => first | (go_simp; done) | (go_simp; rfl)); intro gb188 hg w5 hbox hb; have n0_ := XPrint.A0 (below_step (by exact XPrint.bz HB.out) hb); have n1_ := XPrint.A0 (hbox); have n2_ := XPrint.A0 ((by rw [hg]; exact (below_size (by exact XPrint.bz HB.out)) : w.heap.size ≤ gb188)); have n3_ := XPrint.A0 ((by rw [hg]; exact (below_size (by exact XPrint.bz HB.out)) : w.heap.size ≤ gb188)); clear HB; have HB := n0_; have BK188 := n1_; have GW188 := n2_; have GE188 := n3_; clear n0_ n1_ n2_ n3_; clear hb hbox hg) | ((with_reducible refine gate_dst (N := 4) rfl ?_); refine box_event ?hg (N := 4) ?hd (cs := #[.int .i64 a1_0, .int .i64 a1_1]) (t := 23) ?hr ?_; (case hd => rfl); (case hg => rfl); (case hr => first | (go_simp; done) | (go_simp; rfl)); intro gb189 hg w6 hbox hb; have n0_ := XPrint.A0 (XPrint.bb BK188.out hb); have n1_ := XPrint.A0 (below_step (by exact XPrint.bz HB.out) hb); have n2_ := XPrint.A0 (hbox); have n3_ := XPrint.A0 ((by rw [hg]; exact (below_size (by exact XPrint.bz HB.out)) : w.heap.size ≤ gb189)); have n4_ := XPrint.A0 ((by rw [hg]; exact (below_size (by exact XPrint.bz HB.out)) : w.heap.size ≤ gb189)); have n5_ := XPrint.A0 ((by rw [hg]; exact Nat.ne_of_lt (XPrint.bl BK188.out) : gb188 ≠ gb189)); have n6_ := XPrint.A0 ((by rw [hg]; exact Nat.ne_of_gt (XPrint.bl BK188.out) : gb189 ≠ gb188)); clear BK188; clear HB; have BK188 := n0_; have HB := n1_; have BK189 := n2_; have GW189 := n3_; have GE189 := n4_; have NB188_189 := n5_; have NB189_188 := n6_; clear n0_ n1_ n2_ n3_ n4_ n5_ n6_; clear hb hbox hg) | ((with_reducible refine gate_dst (N := 6) rfl ?_); refine box_event ?hg (N := 6) ?hd (cs := #[.int .i64 0, .int .i64 0]) (t := 23) ?hr ?_; (case hd => rfl); (case hg => rfl); (case hr => first | (go_simp; done) | (go_simp; rfl)); intro gb190 hg w7 hbox hb; have n0_ := XPrint.A0 (XPrint.bb BK188.out hb); have n1_ := XPrint.A0 (XPrint.bb BK189.out hb); have n2_ := XPrint.A0 (below_step (by exact XPrint.bz HB.out) hb); have n3_ := XPrint.A0 (hbox); have n4_ := XPrint.A0 ((by rw [hg]; exact (below_size (by exact XPrint.bz HB.out)) : w.heap.size ≤ gb190)); have n5_ := XPrint.A0 ((by rw [hg]; exact (below_size (by exact XPrint.bz HB.out)) : w.heap.size ≤ gb190)); have n6_ := XPrint.A0 ((by rw [hg]; exact Nat.ne_of_lt (XPrint.bl BK188.out) : gb188 ≠ gb190)); have n7_ := XPrint.A0 ((by rw [hg]; exact Nat.ne_of_gt (XPrint.bl BK188.out) : gb190 ≠ gb188)); have n8_ := XPrint.A0 ((by rw [hg]; exact Nat.ne_of_lt (XPrint.bl BK189.out) : gb189 ≠ gb190)); have n9_ := XPrint.A0 ((by rw [hg]; exact Nat.ne_of_gt (XPrint.bl BK189.out) : gb190 ≠ gb189)); clear BK188; clear BK189; clear HB; have BK188 := n0_; have BK189 := n1_; have HB := n2_; have BK190 := n3_; have GW190 := n4_; have GE190 := n5_; have NB188_190 := n6_; have NB190_188 := n7_; have NB189_190 := n8_; have NB190_189 := n9_; clear n0_ n1_ n2_ n3_ n4_ n5_ n6_ n7_ n8_ n9_; clear hb hbox hg; have hnb8 := NB188_189.out; have hnc8 := NB189_188.out; have hnb9 := NB188_190.out; have hnc9 := NB190_188.out; have hcz10_0 : w7.cell? ⟨gb188, 0, none⟩ = some (.int .i64 a0_0) := (blk_cell BK188.out 0).trans rfl; have hcz10_1 : w7.cell? ⟨gb188, 1, none⟩ = some (.int .i64 a0_1) := (blk_cell BK188.out 1).trans rfl; have hfz10_0 := blk_frozen BK188.out 0; have hfz10_1 := blk_frozen BK188.out 1; have hnb11 := NB189_190.out; have hnc11 := NB190_189.out; have hcz12_0 : w7.cell? ⟨gb189, 0, none⟩ = some (.int .i64 a1_0) := (blk_cell BK189.out 0).trans rfl; have hcz12_1 : w7.cell? ⟨gb189, 1, none⟩ = some (.int .i64 a1_1) := (blk_cell BK189.out 1).trans rfl; have hfz12_0 := blk_frozen BK189.out 0; have hfz12_1 := blk_frozen BK189.out 1) | ((with_reducible refine gate_callee (f := 58) rfl ?_); refine goesL_ (some 13) rfl rfl Try.func58 (by kernel_rfl) rfl #[.agg #[.int .i64 a0_0, .int .i64 a0_1], .agg #[.int .i64 a1_0, .int .i64 a1_1], (.func (.func 64) #[] #[])] rfl (by (try simp only [List.map_toArray, List.map_cons, List.map_nil]); first | done | rfl | (simp only [List.length_drop, List.length_take]; rfl)) ?_; (with_reducible refine (vec_both_int64_at_vec_Add_1.calls a0_0 a0_1 a1_0 a1_1  t191 t192 _ A4.out).mono ?_); rintro e w13 ⟨rfl, hb⟩; refine ⟨_, rfl, ?_⟩; have n0_ := XPrint.A0 (XPrint.bb BK188.out hb); have n1_ := XPrint.A0 (XPrint.bb BK189.out hb); have n2_ := XPrint.A0 (XPrint.bb BK190.out hb); have n3_ := XPrint.A0 (below_step (by exact XPrint.bz HB.out) hb); clear BK188; clear BK189; clear BK190; clear HB; have BK188 := n0_; have BK189 := n1_; have BK190 := n2_; have HB := n3_; clear n0_ n1_ n2_ n3_; (try clear hb); (try clear hb2); (try clear hk); (try clear hi); have hcz14_0 : w13.cell? ⟨gb190, 0, none⟩ = some (.int .i64 0) := (blk_cell BK190.out 0).trans rfl; have hcz14_1 : w13.cell? ⟨gb190, 1, none⟩ = some (.int .i64 0) := (blk_cell BK190.out 1).trans rfl; have hfz14_0 := blk_frozen BK190.out 0; have hfz14_1 := blk_frozen BK190.out 1))
 refine bodyPost_ret (results_cell_row rfl _ _ gb190 23 #[.int .i64 t191, .int .i64 t192] (0, 0) _ rfl (by (with_reducible repeat (first | refine blk_drewN ?_ _ | refine blk_drew ?_ | refine blk_alloc ?_ _)); refine blk_put (cs := #[.int .i64 t191, .int .i64 0]) ?_ 1 _ rfl; (with_reducible repeat (first | refine blk_drewN ?_ _ | refine blk_drew ?_ | refine blk_alloc ?_ _)); refine blk_put (cs := #[.int .i64 0, .int .i64 0]) ?_ 0 _ rfl; (with_reducible repeat (first | refine blk_drewN ?_ _ | refine blk_drew ?_ | refine blk_alloc ?_ _)); exact BK190.out) Try.underlying23 rfl (by kernel_rfl)) rfl ?_
 exact ⟨by first | rfl | (simp [errW_none, errW_some] <;> rfl) | (simp [*, errW_none, errW_some] <;> rfl), by repeat (first | (with_reducible first | exact HB.out | apply below_alloc | apply pw_below_drewN | apply below_drew1 | refine below_set ?_ GE188.out | refine below_set ?_ GE189.out | refine below_set ?_ GE190.out) | exact HB.out)⟩

end Go.Proofs.Ytdcgilnmncanfaa.PVecUnits
