-- printed by this session's own driver over the kit's printer: Lean checks it
import Derived.Test.YthibppfdonepoaaCLedgerRoomsPLedLibx0
namespace Go.Proofs.Ythibppfdonepoaa.PLedLib
open Go.RowKit Go.Proofs.YthibppfdonepoaaW.PrintWords Go.Proofs.YthibppfdonepoaaW.PrintLast Go.Proofs.YthibppfdonepoaaW.PrintMore
attribute [local go_sem] max2_int min2_int max_two min_two max_three min_three max_four min_four   -- for this text's walks alone
set_option linter.unusedVariables false
set_option linter.unusedSimpArgs false

-- NOT PRINTED: function 150 (slices_pdqsortOrdered_uint32)

-- NOT PRINTED: function 116 (slices_Sort_uint32_uint32)

-- NOT PRINTED: function 159 (slices_AppendSeq_uint32_uint32)

-- NOT PRINTED: function 124 (slices_Collect_uint32)

-- NOT PRINTED: function 74 (slices_Sorted_uint32)

-- NOT PRINTED: function 75 (api_Node_75)

-- NOT PRINTED: function 22 (node_Table_Nodes)

/-! ### vec_LE_1: function 155 -/
def vec_LE_1.f (a0 : Int) (a1 : Int) : Option (Bool) := some (decide (a0 ≤ a1))
set_option maxHeartbeats 8000000 in
set_option maxRecDepth 100000 in
theorem vec_LE_1.calls (a0 : Int) (a1 : Int) (r : Bool) (w : World) (h : vec_LE_1.f a0 a1 = some r) :
  Calls Try.prog 155 #[.int .i64 a0, .int .i64 a1] w fun e w' => e = .returned (.bool r) ∧ Drawn0 w w' := by
 have H : (some (decide (a0 ≤ a1))) = some r := h
 clear h
 obtain rfl := Option.some.inj H
 go_enter Try.func155, Try.ntmps155
 go_wp2
 go_ret
 exact ⟨by first | rfl | (simp; done) | (simp [*]; done), by repeat (first | exact Drawn0.refl _ | apply Drawn0.step)⟩

/-! ### vec_both_bool_at_vec_LE_1: function 10154 -/
def vec_both_bool_at_vec_LE_1.f (a0_0 : Int) (a0_1 : Int) (a1_0 : Int) (a1_1 : Int)  : Option (Bool × Bool) := (vec_LE_1.f a0_0 a1_0).bind fun t223 => ((vec_LE_1.f a0_1 a1_1).bind fun t224 => (some (t223, t224)))
set_option maxHeartbeats 8000000 in
set_option maxRecDepth 100000 in
theorem vec_both_bool_at_vec_LE_1.calls (a0_0 : Int) (a0_1 : Int) (a1_0 : Int) (a1_1 : Int)  (r1 : Bool) (r2 : Bool) (w : World) (h : vec_both_bool_at_vec_LE_1.f a0_0 a0_1 a1_0 a1_1 = some (r1, r2)) :
  Calls Try.prog 154 #[.agg #[.int .i64 a0_0, .int .i64 a0_1], .agg #[.int .i64 a1_0, .int .i64 a1_1], .func (.func 155) #[] #[]] w fun e w' => e = .returned (.tuple #[.bool r1, .bool r2]) ∧ Below w.heap.size w w' := by
 have hu23 := Try.underlying23
 have HB := XPrint.A0 (Below.refl w.heap.size w)
 have H : ((vec_LE_1.f a0_0 a1_0).bind fun t223 => ((vec_LE_1.f a0_1 a1_1).bind fun t224 => (some (t223, t224)))) = some (r1, r2) := h
 clear h
 replace H := Option.bind_eq_some_iff.mp H
 obtain ⟨t223, A40, H⟩ := H
 replace H : ((vec_LE_1.f a0_1 a1_1).bind fun t224 => (some (t223, t224))) = some (r1, r2) := H
 have A4 := XPrint.A0 A40
 clear A40
 replace H := Option.bind_eq_some_iff.mp H
 obtain ⟨t224, A50, H⟩ := H
 replace H : (some (t223, t224)) = some (r1, r2) := H
 have A5 := XPrint.A0 A50
 clear A50
 simp only [Option.some.injEq, Prod.mk.injEq] at H
 obtain ⟨rfl, rfl⟩ := H
 go_enter Try.func154, Try.ntmps154
 go_wp2_with (first | ((with_reducible refine gate_dst (N := 3) rfl ?_); refine box_event ?hg (N := 3) ?hd (cs := #[.int .i64 a0_0, .int .i64 a0_1]) (t := 23) ?hr ?_; (case hd => rfl); (case hg => rfl); (case hr => first | (go_simp; done) | (go_simp; rfl)); intro gb221 hg w6 hbox hb; have BK221 := XPrint.A0 (hbox); have GW221 := XPrint.A0 (XPrint.gz HB.out hg); have GE221 := XPrint.A0 (XPrint.gz HB.out hg); replace HB := XPrint.A0 (below_step (by exact XPrint.bz HB.out) hb); clear hb hbox hg) | ((with_reducible refine gate_dst (N := 4) rfl ?_); refine box_event ?hg (N := 4) ?hd (cs := #[.int .i64 a1_0, .int .i64 a1_1]) (t := 23) ?hr ?_; (case hd => rfl); (case hg => rfl); (case hr => first | (go_simp; done) | (go_simp; rfl)); intro gb222 hg w7 hbox hb; have BK222 := XPrint.A0 (hbox); have GW222 := XPrint.A0 (XPrint.gz HB.out hg); have GE222 := XPrint.A0 (XPrint.gz HB.out hg); have NB221_222 := XPrint.A1 (by rw [hg]; exact Nat.ne_of_lt (XPrint.al BK221.out) : gb221 ≠ gb222); have NB222_221 := XPrint.A1 (by rw [hg]; exact Nat.ne_of_gt (XPrint.al BK221.out) : gb222 ≠ gb221); replace BK221 := XPrint.A0 (XPrint.ab BK221.out hb); replace HB := XPrint.A0 (below_step (by exact XPrint.bz HB.out) hb); clear hb hbox hg; have hnb8 := NB221_222.out; have hnc8 := NB222_221.out; have hcz9_0 : w7.cell? ⟨gb221, 0, none⟩ = some (.int .i64 a0_0) := (blk_cell BK221.out 0).trans rfl; have hcz9_1 : w7.cell? ⟨gb221, 1, none⟩ = some (.int .i64 a0_1) := (blk_cell BK221.out 1).trans rfl; have hfz9_0 := blk_frozen BK221.out 0; have hfz9_1 := blk_frozen BK221.out 1; have hcz10_0 : w7.cell? ⟨gb222, 0, none⟩ = some (.int .i64 a1_0) := (blk_cell BK222.out 0).trans rfl; have hcz10_1 : w7.cell? ⟨gb222, 1, none⟩ = some (.int .i64 a1_1) := (blk_cell BK222.out 1).trans rfl; have hfz10_0 := blk_frozen BK222.out 0; have hfz10_1 := blk_frozen BK222.out 1) | (go_at_call 155; (with_reducible refine (vec_LE_1.calls a0_0 a1_0 t223 _ A4.out).mono ?_); rintro e w' ⟨rfl, ⟨nd, rfl⟩⟩; (try first | exact ⟨rfl, _, World.drewN_drewN _ _ _⟩ | exact ⟨rfl, _, Eq.trans (World.drewN_drewN _ _ _) (congrArg (World.drewN _) (Nat.add_assoc _ _ _))⟩)) | (go_at_call 155; (with_reducible refine (vec_LE_1.calls a0_1 a1_1 t224 _ A5.out).mono ?_); rintro e w' ⟨rfl, ⟨nd, rfl⟩⟩; (try first | exact ⟨rfl, _, World.drewN_drewN _ _ _⟩ | exact ⟨rfl, _, Eq.trans (World.drewN_drewN _ _ _) (congrArg (World.drewN _) (Nat.add_assoc _ _ _))⟩)))
 repeat (go_quiet (first | ((with_reducible refine gate_dst (N := 3) rfl ?_); refine box_event ?hg (N := 3) ?hd (cs := #[.int .i64 a0_0, .int .i64 a0_1]) (t := 23) ?hr ?_; (case hd => rfl); (case hg => rfl); (case hr => first | (go_simp; done) | (go_simp; rfl)); intro gb221 hg w6 hbox hb; have BK221 := XPrint.A0 (hbox); have GW221 := XPrint.A0 (XPrint.gz HB.out hg); have GE221 := XPrint.A0 (XPrint.gz HB.out hg); replace HB := XPrint.A0 (below_step (by exact XPrint.bz HB.out) hb); clear hb hbox hg) | ((with_reducible refine gate_dst (N := 4) rfl ?_); refine box_event ?hg (N := 4) ?hd (cs := #[.int .i64 a1_0, .int .i64 a1_1]) (t := 23) ?hr ?_; (case hd => rfl); (case hg => rfl); (case hr => first | (go_simp; done) | (go_simp; rfl)); intro gb222 hg w7 hbox hb; have BK222 := XPrint.A0 (hbox); have GW222 := XPrint.A0 (XPrint.gz HB.out hg); have GE222 := XPrint.A0 (XPrint.gz HB.out hg); have NB221_222 := XPrint.A1 (by rw [hg]; exact Nat.ne_of_lt (XPrint.al BK221.out) : gb221 ≠ gb222); have NB222_221 := XPrint.A1 (by rw [hg]; exact Nat.ne_of_gt (XPrint.al BK221.out) : gb222 ≠ gb221); replace BK221 := XPrint.A0 (XPrint.ab BK221.out hb); replace HB := XPrint.A0 (below_step (by exact XPrint.bz HB.out) hb); clear hb hbox hg; have hnb8 := NB221_222.out; have hnc8 := NB222_221.out; have hcz9_0 : w7.cell? ⟨gb221, 0, none⟩ = some (.int .i64 a0_0) := (blk_cell BK221.out 0).trans rfl; have hcz9_1 : w7.cell? ⟨gb221, 1, none⟩ = some (.int .i64 a0_1) := (blk_cell BK221.out 1).trans rfl; have hfz9_0 := blk_frozen BK221.out 0; have hfz9_1 := blk_frozen BK221.out 1; have hcz10_0 : w7.cell? ⟨gb222, 0, none⟩ = some (.int .i64 a1_0) := (blk_cell BK222.out 0).trans rfl; have hcz10_1 : w7.cell? ⟨gb222, 1, none⟩ = some (.int .i64 a1_1) := (blk_cell BK222.out 1).trans rfl; have hfz10_0 := blk_frozen BK222.out 0; have hfz10_1 := blk_frozen BK222.out 1) | (go_at_call 155; (with_reducible refine (vec_LE_1.calls a0_0 a1_0 t223 _ A4.out).mono ?_); rintro e w' ⟨rfl, ⟨nd, rfl⟩⟩; (try first | exact ⟨rfl, _, World.drewN_drewN _ _ _⟩ | exact ⟨rfl, _, Eq.trans (World.drewN_drewN _ _ _) (congrArg (World.drewN _) (Nat.add_assoc _ _ _))⟩)) | (go_at_call 155; (with_reducible refine (vec_LE_1.calls a0_1 a1_1 t224 _ A5.out).mono ?_); rintro e w' ⟨rfl, ⟨nd, rfl⟩⟩; (try first | exact ⟨rfl, _, World.drewN_drewN _ _ _⟩ | exact ⟨rfl, _, Eq.trans (World.drewN_drewN _ _ _) (congrArg (World.drewN _) (Nat.add_assoc _ _ _))⟩))); try go_wp2_with (first | ((with_reducible refine gate_dst (N := 3) rfl ?_); refine box_event ?hg (N := 3) ?hd (cs := #[.int .i64 a0_0, .int .i64 a0_1]) (t := 23) ?hr ?_; (case hd => rfl); (case hg => rfl); (case hr => first | (go_simp; done) | (go_simp; rfl)); intro gb221 hg w6 hbox hb; have BK221 := XPrint.A0 (hbox); have GW221 := XPrint.A0 (XPrint.gz HB.out hg); have GE221 := XPrint.A0 (XPrint.gz HB.out hg); replace HB := XPrint.A0 (below_step (by exact XPrint.bz HB.out) hb); clear hb hbox hg) | ((with_reducible refine gate_dst (N := 4) rfl ?_); refine box_event ?hg (N := 4) ?hd (cs := #[.int .i64 a1_0, .int .i64 a1_1]) (t := 23) ?hr ?_; (case hd => rfl); (case hg => rfl); (case hr => first | (go_simp; done) | (go_simp; rfl)); intro gb222 hg w7 hbox hb; have BK222 := XPrint.A0 (hbox); have GW222 := XPrint.A0 (XPrint.gz HB.out hg); have GE222 := XPrint.A0 (XPrint.gz HB.out hg); have NB221_222 := XPrint.A1 (by rw [hg]; exact Nat.ne_of_lt (XPrint.al BK221.out) : gb221 ≠ gb222); have NB222_221 := XPrint.A1 (by rw [hg]; exact Nat.ne_of_gt (XPrint.al BK221.out) : gb222 ≠ gb221); replace BK221 := XPrint.A0 (XPrint.ab BK221.out hb); replace HB := XPrint.A0 (below_step (by exact XPrint.bz HB.out) hb); clear hb hbox hg; have hnb8 := NB221_222.out; have hnc8 := NB222_221.out; have hcz9_0 : w7.cell? ⟨gb221, 0, none⟩ = some (.int .i64 a0_0) := (blk_cell BK221.out 0).trans rfl; have hcz9_1 : w7.cell? ⟨gb221, 1, none⟩ = some (.int .i64 a0_1) := (blk_cell BK221.out 1).trans rfl; have hfz9_0 := blk_frozen BK221.out 0; have hfz9_1 := blk_frozen BK221.out 1; have hcz10_0 : w7.cell? ⟨gb222, 0, none⟩ = some (.int .i64 a1_0) := (blk_cell BK222.out 0).trans rfl; have hcz10_1 : w7.cell? ⟨gb222, 1, none⟩ = some (.int .i64 a1_1) := (blk_cell BK222.out 1).trans rfl; have hfz10_0 := blk_frozen BK222.out 0; have hfz10_1 := blk_frozen BK222.out 1) | (go_at_call 155; (with_reducible refine (vec_LE_1.calls a0_0 a1_0 t223 _ A4.out).mono ?_); rintro e w' ⟨rfl, ⟨nd, rfl⟩⟩; (try first | exact ⟨rfl, _, World.drewN_drewN _ _ _⟩ | exact ⟨rfl, _, Eq.trans (World.drewN_drewN _ _ _) (congrArg (World.drewN _) (Nat.add_assoc _ _ _))⟩)) | (go_at_call 155; (with_reducible refine (vec_LE_1.calls a0_1 a1_1 t224 _ A5.out).mono ?_); rintro e w' ⟨rfl, ⟨nd, rfl⟩⟩; (try first | exact ⟨rfl, _, World.drewN_drewN _ _ _⟩ | exact ⟨rfl, _, Eq.trans (World.drewN_drewN _ _ _) (congrArg (World.drewN _) (Nat.add_assoc _ _ _))⟩))))
 go_ret2
 exact ⟨by first | rfl | (simp [errW_none, errW_some] <;> rfl) | (simp [*, errW_none, errW_some] <;> rfl), by exact XPrint.bz HB.out⟩

/-! ### vec_LE: function 120 -/
def vec_LE.f (a0_0 : Int) (a0_1 : Int) (a1_0 : Int) (a1_1 : Int) : Option (Bool) := (vec_both_bool_at_vec_LE_1.f a0_0 a0_1 a1_0 a1_1).bind fun bt227 => (if bt227.1 = true then (some bt227.2) else (some false))
set_option maxHeartbeats 8000000 in
set_option maxRecDepth 100000 in
theorem vec_LE.calls (a0_0 : Int) (a0_1 : Int) (a1_0 : Int) (a1_1 : Int) (r : Bool) (w : World) (h : vec_LE.f a0_0 a0_1 a1_0 a1_1 = some r) :
  Calls Try.prog 120 #[.agg #[.int .i64 a0_0, .int .i64 a0_1], .agg #[.int .i64 a1_0, .int .i64 a1_1]] w fun e w' => e = .returned (.bool r) ∧ Below w.heap.size w w' := by
 have hu23 := Try.underlying23
 have HB := XPrint.A0 (Below.refl w.heap.size w)
 have H : ((vec_both_bool_at_vec_LE_1.f a0_0 a0_1 a1_0 a1_1).bind fun bt227 => (if bt227.1 = true then (some bt227.2) else (some false))) = some r := h
 clear h
 replace H := Option.bind_eq_some_iff.mp H
 obtain ⟨⟨t227, t228⟩, A30, H⟩ := H
 replace H : (if t227 = true then (some t228) else (some false)) = some r := H
 have A3 := XPrint.A0 A30
 clear A30
 by_cases c4 : t227 = true
 ·subst c4
  have H1 := H; rw [if_pos rfl] at H1
  clear H
  have H := H1
  clear H1
  obtain rfl := Option.some.inj H
  go_enter Try.func120, Try.ntmps120
  go_wp2_with (first | ((with_reducible refine gate_dst (N := 2) rfl ?_); refine box_event ?hg (N := 2) ?hd (cs := #[.int .i64 a0_0, .int .i64 a0_1]) (t := 23) ?hr ?_; (case hd => rfl); (case hg => rfl); (case hr => first | (go_simp; done) | (go_simp; rfl)); intro gb225 hg w5 hbox hb; have BK225 := XPrint.A0 (hbox); have GW225 := XPrint.A0 (XPrint.gz HB.out hg); have GE225 := XPrint.A0 (XPrint.gz HB.out hg); replace HB := XPrint.A0 (below_step (by exact XPrint.bz HB.out) hb); clear hb hbox hg) | ((with_reducible refine gate_dst (N := 3) rfl ?_); refine box_event ?hg (N := 3) ?hd (cs := #[.int .i64 a1_0, .int .i64 a1_1]) (t := 23) ?hr ?_; (case hd => rfl); (case hg => rfl); (case hr => first | (go_simp; done) | (go_simp; rfl)); intro gb226 hg w6 hbox hb; have BK226 := XPrint.A0 (hbox); have GW226 := XPrint.A0 (XPrint.gz HB.out hg); have GE226 := XPrint.A0 (XPrint.gz HB.out hg); have NB225_226 := XPrint.A1 (by rw [hg]; exact Nat.ne_of_lt (XPrint.al BK225.out) : gb225 ≠ gb226); have NB226_225 := XPrint.A1 (by rw [hg]; exact Nat.ne_of_gt (XPrint.al BK225.out) : gb226 ≠ gb225); replace BK225 := XPrint.A0 (XPrint.ab BK225.out hb); replace HB := XPrint.A0 (below_step (by exact XPrint.bz HB.out) hb); clear hb hbox hg; have hnb7 := NB225_226.out; have hnc7 := NB226_225.out; have hcz8_0 : w6.cell? ⟨gb225, 0, none⟩ = some (.int .i64 a0_0) := (blk_cell BK225.out 0).trans rfl; have hcz8_1 : w6.cell? ⟨gb225, 1, none⟩ = some (.int .i64 a0_1) := (blk_cell BK225.out 1).trans rfl; have hfz8_0 := blk_frozen BK225.out 0; have hfz8_1 := blk_frozen BK225.out 1; have hcz9_0 : w6.cell? ⟨gb226, 0, none⟩ = some (.int .i64 a1_0) := (blk_cell BK226.out 0).trans rfl; have hcz9_1 : w6.cell? ⟨gb226, 1, none⟩ = some (.int .i64 a1_1) := (blk_cell BK226.out 1).trans rfl; have hfz9_0 := blk_frozen BK226.out 0; have hfz9_1 := blk_frozen BK226.out 1) | ((with_reducible refine gate_callee (f := 154) rfl ?_); refine XPrint.gl (some 10) Try.func154 #[.agg #[.int .i64 a0_0, .int .i64 a0_1], .agg #[.int .i64 a1_0, .int .i64 a1_1], (.func (.func 155) #[] #[])] ?_; (with_reducible refine (vec_both_bool_at_vec_LE_1.calls a0_0 a0_1 a1_0 a1_1  true t228 _ A3.out).mono ?_); rintro e w10 ⟨rfl, hb⟩; refine ⟨_, rfl, ?_⟩; replace BK225 := XPrint.A0 (XPrint.ab BK225.out hb); replace BK226 := XPrint.A0 (XPrint.ab BK226.out hb); replace HB := XPrint.A0 (below_step (by exact XPrint.bz HB.out) hb); (try clear hb); (try clear hb2); (try clear hk); (try clear hi)))
  go_ret
  exact ⟨by first | rfl | (simp [errW_none, errW_some] <;> rfl) | (simp [*, errW_none, errW_some] <;> rfl), by exact XPrint.bz HB.out⟩
 ·replace c4 := Bool.eq_false_iff.mpr c4
  subst c4
  have H1 := H; rw [if_neg (show ¬ (false = true) by decide)] at H1
  clear H
  have H := H1
  clear H1
  obtain rfl := Option.some.inj H
  go_enter Try.func120, Try.ntmps120
  go_wp2_with (first | ((with_reducible refine gate_dst (N := 2) rfl ?_); refine box_event ?hg (N := 2) ?hd (cs := #[.int .i64 a0_0, .int .i64 a0_1]) (t := 23) ?hr ?_; (case hd => rfl); (case hg => rfl); (case hr => first | (go_simp; done) | (go_simp; rfl)); intro gb225 hg w11 hbox hb; have BK225 := XPrint.A0 (hbox); have GW225 := XPrint.A0 (XPrint.gz HB.out hg); have GE225 := XPrint.A0 (XPrint.gz HB.out hg); replace HB := XPrint.A0 (below_step (by exact XPrint.bz HB.out) hb); clear hb hbox hg) | ((with_reducible refine gate_dst (N := 3) rfl ?_); refine box_event ?hg (N := 3) ?hd (cs := #[.int .i64 a1_0, .int .i64 a1_1]) (t := 23) ?hr ?_; (case hd => rfl); (case hg => rfl); (case hr => first | (go_simp; done) | (go_simp; rfl)); intro gb226 hg w12 hbox hb; have BK226 := XPrint.A0 (hbox); have GW226 := XPrint.A0 (XPrint.gz HB.out hg); have GE226 := XPrint.A0 (XPrint.gz HB.out hg); have NB225_226 := XPrint.A1 (by rw [hg]; exact Nat.ne_of_lt (XPrint.al BK225.out) : gb225 ≠ gb226); have NB226_225 := XPrint.A1 (by rw [hg]; exact Nat.ne_of_gt (XPrint.al BK225.out) : gb226 ≠ gb225); replace BK225 := XPrint.A0 (XPrint.ab BK225.out hb); replace HB := XPrint.A0 (below_step (by exact XPrint.bz HB.out) hb); clear hb hbox hg; have hnb13 := NB225_226.out; have hnc13 := NB226_225.out; have hcz14_0 : w12.cell? ⟨gb225, 0, none⟩ = some (.int .i64 a0_0) := (blk_cell BK225.out 0).trans rfl; have hcz14_1 : w12.cell? ⟨gb225, 1, none⟩ = some (.int .i64 a0_1) := (blk_cell BK225.out 1).trans rfl; have hfz14_0 := blk_frozen BK225.out 0; have hfz14_1 := blk_frozen BK225.out 1; have hcz15_0 : w12.cell? ⟨gb226, 0, none⟩ = some (.int .i64 a1_0) := (blk_cell BK226.out 0).trans rfl; have hcz15_1 : w12.cell? ⟨gb226, 1, none⟩ = some (.int .i64 a1_1) := (blk_cell BK226.out 1).trans rfl; have hfz15_0 := blk_frozen BK226.out 0; have hfz15_1 := blk_frozen BK226.out 1) | ((with_reducible refine gate_callee (f := 154) rfl ?_); refine XPrint.gl (some 10) Try.func154 #[.agg #[.int .i64 a0_0, .int .i64 a0_1], .agg #[.int .i64 a1_0, .int .i64 a1_1], (.func (.func 155) #[] #[])] ?_; (with_reducible refine (vec_both_bool_at_vec_LE_1.calls a0_0 a0_1 a1_0 a1_1  false t228 _ A3.out).mono ?_); rintro e w16 ⟨rfl, hb⟩; refine ⟨_, rfl, ?_⟩; replace BK225 := XPrint.A0 (XPrint.ab BK225.out hb); replace BK226 := XPrint.A0 (XPrint.ab BK226.out hb); replace HB := XPrint.A0 (below_step (by exact XPrint.bz HB.out) hb); (try clear hb); (try clear hb2); (try clear hk); (try clear hi)))
  go_ret
  exact ⟨by first | rfl | (simp [errW_none, errW_some] <;> rfl) | (simp [*, errW_none, errW_some] <;> rfl), by exact XPrint.bz HB.out⟩

/-! ### vec_fits_int64: function 129 -/
def vec_fits_int64.l0 : Nat → List Int → Int → Int → Option (Bool)
 | 0, _, _, _ => none
 | k + 1, x5, x6, x7 => if x7 < x6 then (if 0 ≤ x7 then (if x7 < (x5.length : Int) then (if (rd x5 x7) < (-1125899906842624) then (some false) else (if (rd x5 x7) > 1125899906842624 then (some false) else (vec_fits_int64.l0 k x5 x6 (wrap64 (x7 + 1))))) else (none)) else (none)) else (some true)
def vec_fits_int64.f (k : Nat) (l0 : List Int) : Option (Bool) := vec_fits_int64.l0 k l0 (l0.length : Int) 0
theorem vec_fits_int64.mono_l : ∀ k, (∀ y0 y1 y2, LeO (vec_fits_int64.l0 k y0 y1 y2) (vec_fits_int64.l0 (k + 1) y0 y1 y2))
 | 0 => fun _ _ _ r h => by simp [vec_fits_int64.l0] at h
 | k + 1 => by
  have ih0 := vec_fits_int64.mono_l k
  ·intro y0 y1 y2
   unfold vec_fits_int64.l0
   repeat' first
   | (with_reducible exact ih0 _ _ _)
   | (with_reducible exact LeO.refl _)
   | (with_reducible exact LeO.none _)
   | (with_reducible refine LeO.ite ?_ ?_)
   | (with_reducible refine LeO.bind ?_ (fun _ => ?_))
   | exact ih0 _ _ _
   | exact LeO.none _
   | refine LeO.ite ?_ ?_
   | refine LeO.bind ?_ (fun _ => ?_)
theorem vec_fits_int64.mono : ∀ a0 k, LeO (vec_fits_int64.f k a0) (vec_fits_int64.f (k + 1) a0) := by
 intro a0 k
 have ih0 := vec_fits_int64.mono_l k
 unfold vec_fits_int64.f
 repeat' first
   | (with_reducible exact ih0 _ _ _)
   | (with_reducible exact LeO.refl _)
   | (with_reducible exact LeO.none _)
   | (with_reducible refine LeO.ite ?_ ?_)
   | (with_reducible refine LeO.bind ?_ (fun _ => ?_))
   | exact ih0 _ _ _
   | exact LeO.none _
   | refine LeO.ite ?_ ?_
   | refine LeO.bind ?_ (fun _ => ?_)
set_option maxHeartbeats 8000000 in
set_option maxRecDepth 100000 in
theorem vec_fits_int64.calls (k : Nat) (A0 : Option Addr) (c0 : Nat) (l0 : List Int) (r : Bool) (w : World) (hr0 : Kd.C (Kd.int .i64) w A0 l0.length l0) (hc0 : l0.length ≤ c0) (h : vec_fits_int64.f k l0 = some r) :
  Calls Try.prog 129 #[.slice A0 l0.length c0] w fun e w' => e = .returned (.bool r) ∧ Drawn0 w w' := by
 have HR0 := XPrint.A0 hr0
 have HC0 := XPrint.A0 hc0
 clear hr0 hc0
 have H : (vec_fits_int64.l0 k l0 (l0.length : Int) 0) = some r := h
 clear h
 have H' := XPrint.A0 H
 clear H
 go_enter Try.func129, Try.ntmps129
 go_wp2
 go_loopg [7] k (fun kq v7 w' => ∃ (x7_1 : Int), v7 = .int .i64 x7_1 ∧ Aside0 (vec_fits_int64.l0 kq l0 (l0.length : Int) x7_1 = some r) ∧ Aside0 (kq ≤ k) ∧ Drawn0 w w')
 case atStart => exact ⟨(0), (by first | rfl | (simp; done) | (simp [*]; done)), H', ⟨Nat.le_refl _⟩, by repeat (first | exact Drawn0.refl _ | apply Drawn0.step)⟩
 case round =>
  clear H'
  try clear c1
  obtain ⟨x7_1, rfl, HA, HK1, ⟨m1, rfl⟩⟩ := hrel
  cases gk with
  | zero => exact absurd HA.out (by simp [vec_fits_int64.l0])
  | succ k1 =>
   have H := HA.out
   clear HA
   simp only [vec_fits_int64.l0] at H
   by_cases c2 : x7_1 < (l0.length : Int)
   ·rw [if_pos c2] at H
    have c2b0 : decide (x7_1 < (l0.length : Int)) = true := decide_eq_true c2
    clear c2
    by_cases c3 : 0 ≤ x7_1
    ·rw [if_pos c3] at H
     have c3b0 : decide (0 ≤ x7_1) = true := decide_eq_true c3
     clear c3
     by_cases c4 : x7_1 < (l0.length : Int)
     ·rw [if_pos c4] at H
      have c4b0 : decide (x7_1 < (l0.length : Int)) = true := decide_eq_true c4
      clear c4
      by_cases c5 : (rd l0 x7_1) < (-1125899906842624)
      ·rw [if_pos c5] at H
       have c5b0 : decide ((rd l0 x7_1) < (-1125899906842624)) = true := decide_eq_true c5
       clear c5
       obtain rfl := Option.some.inj H
       have p229 : 0 ≤ (x7_1 : Int) := of_decide_eq_true (by first | (with_reducible assumption) | assumption)
       have q229 : x7_1 < (l0.length : Int) := of_decide_eq_true (by first | (with_reducible assumption) | assumption)
       obtain ⟨ad229, e229, hx229_0⟩ := Kd.at_int HR0.out x7_1 p229 q229
       cases e229
       replace p229 := eq_true p229
       replace q229 := eq_true q229
       go_wp2
       go_ret
       exact ⟨by first | rfl | (simp; done) | (simp [*]; done), by repeat (first | exact Drawn0.refl _ | apply Drawn0.step)⟩
      ·rw [if_neg c5] at H
       have c5b0 : decide ((rd l0 x7_1) < (-1125899906842624)) = false := decide_eq_false c5
       clear c5
       by_cases c6 : (rd l0 x7_1) > 1125899906842624
       ·rw [if_pos c6] at H
        have c6b0 : decide (1125899906842624 < (rd l0 x7_1)) = true := decide_eq_true c6
        clear c6
        obtain rfl := Option.some.inj H
        have p229 : 0 ≤ (x7_1 : Int) := of_decide_eq_true (by first | (with_reducible assumption) | assumption)
        have q229 : x7_1 < (l0.length : Int) := of_decide_eq_true (by first | (with_reducible assumption) | assumption)
        obtain ⟨ad229, e229, hx229_0⟩ := Kd.at_int HR0.out x7_1 p229 q229
        cases e229
        replace p229 := eq_true p229
        replace q229 := eq_true q229
        go_wp2
        go_ret
        exact ⟨by first | rfl | (simp; done) | (simp [*]; done), by repeat (first | exact Drawn0.refl _ | apply Drawn0.step)⟩
       ·rw [if_neg c6] at H
        have c6b0 : decide (1125899906842624 < (rd l0 x7_1)) = false := decide_eq_false c6
        clear c6
        have H' := XPrint.A0 H
        clear H
        have p229 : 0 ≤ (x7_1 : Int) := of_decide_eq_true (by first | (with_reducible assumption) | assumption)
        have q229 : x7_1 < (l0.length : Int) := of_decide_eq_true (by first | (with_reducible assumption) | assumption)
        obtain ⟨ad229, e229, hx229_0⟩ := Kd.at_int HR0.out x7_1 p229 q229
        cases e229
        replace p229 := eq_true p229
        replace q229 := eq_true q229
        go_wp2
        go_roundg k1
        case measure => have := HK1.out; omega
        case rel => exact ⟨(wrap64 (x7_1 + 1)), (by first | rfl | (simp; done) | (simp [*]; done)), H', ⟨by have := HK1.out; omega⟩, by repeat (first | exact Drawn0.refl _ | apply Drawn0.step)⟩
     ·rw [if_neg c4] at H
      exact absurd H (by simp)
    ·rw [if_neg c3] at H
     exact absurd H (by simp)
   ·rw [if_neg c2] at H
    have c2b0 : decide (x7_1 < (l0.length : Int)) = false := decide_eq_false c2
    clear c2
    obtain rfl := Option.some.inj H
    go_wp2
    go_ret
    exact ⟨by first | rfl | (simp; done) | (simp [*]; done), by repeat (first | exact Drawn0.refl _ | apply Drawn0.step)⟩

/-! ### vec_May: function 126 -/
def vec_May.f (k : Nat) (a0_0 : Int) (a0_1 : Int) : Option (Bool) := (vec_fits_int64.f k (([a0_0, a0_1] : List Int))).bind fun t234 => (some t234)
theorem vec_May.mono : ∀ a0 a1 k, LeO (vec_May.f k a0 a1) (vec_May.f (k + 1) a0 a1) := by
 intro a0 a1 k
 unfold vec_May.f
 repeat' first
   | (with_reducible exact vec_fits_int64.mono _ _)
   | (with_reducible exact LeO.refl _)
   | (with_reducible exact LeO.none _)
   | (with_reducible refine LeO.ite ?_ ?_)
   | (with_reducible refine LeO.bind ?_ (fun _ => ?_))
   | exact vec_fits_int64.mono _ _
   | exact LeO.none _
   | refine LeO.ite ?_ ?_
   | refine LeO.bind ?_ (fun _ => ?_)
set_option maxHeartbeats 8000000 in
set_option maxRecDepth 100000 in
theorem vec_May.calls (k : Nat) (a0_0 : Int) (a0_1 : Int) (r : Bool) (w : World) (h : vec_May.f k a0_0 a0_1 = some r) :
  Calls Try.prog 126 #[.agg #[.int .i64 a0_0, .int .i64 a0_1]] w fun e w' => e = .returned (.bool r) ∧ Below w.heap.size w w' := by
 have hu23 := Try.underlying23
 have HB := XPrint.A0 (Below.refl w.heap.size w)
 have H : ((vec_fits_int64.f k (([a0_0, a0_1] : List Int))).bind fun t234 => (some t234)) = some r := h
 clear h
 obtain ⟨y231, hy231⟩ : ∃ y_ : List Int, y_ = (([a0_0, a0_1] : List Int)) := ⟨_, rfl⟩
 replace H : ((vec_fits_int64.f k y231).bind fun t234 => (some t234)) = some r := by first | (rw [hy231]; with_reducible exact H) | (have H2_ := (Option.bind_some _ _).symm.trans H; rw [hy231]; with_reducible exact H2_) | (have H2_ := (Option.bind_some _ _).symm.trans H; with_reducible exact H2_) | with_reducible exact H | (rw [hy231]; exact H) | exact H
 have Ny231 := XPrint.A0 hy231
 clear hy231
 replace H := Option.bind_eq_some_iff.mp H
 obtain ⟨t234, A20, H⟩ := H
 try set_option simprocs false in dsimp only at H
 have A2 := XPrint.A0 A20
 clear A20
 obtain rfl := Option.some.inj H
 go_enter Try.func126, Try.ntmps126
 go_wp2_with (first | ((with_reducible refine gate_dst (N := 1) rfl ?_); refine box_event ?hg (N := 1) ?hd (cs := #[.int .i64 a0_0, .int .i64 a0_1]) (t := 23) ?hr ?_; (case hd => rfl); (case hg => rfl); (case hr => first | (go_simp; done) | (go_simp; rfl)); intro gb230 hg w3 hbox hb; have BK230 := XPrint.A0 (hbox); have GW230 := XPrint.A0 (XPrint.gz HB.out hg); have GE230 := XPrint.A0 (XPrint.gz HB.out hg); replace HB := XPrint.A0 (below_step (by exact XPrint.bz HB.out) hb); clear hb hbox hg; have hcz4_0 : w3.cell? ⟨gb230, 0, none⟩ = some (.int .i64 a0_0) := (blk_cell BK230.out 0).trans rfl; have hcz4_1 : w3.cell? ⟨gb230, 1, none⟩ = some (.int .i64 a0_1) := (blk_cell BK230.out 1).trans rfl; have hfz4_0 := blk_frozen BK230.out 0; have hfz4_1 := blk_frozen BK230.out 1) | ((with_reducible refine gate_dst (N := 7) rfl ?_); refine Kd.R_lit (Kd.int .i64) _ 2 ?hg (N := 7) ?hd (xs := ([a0_0, a0_1] : List Int)) (inner := [.int .i64 a0_0, .int .i64 a0_1]) (ok := fun _ => True) (okp := fun _ => True) ?hr ?hp (fun _ hk => hk) trivial (Below.refl _ _) (Nat.le_refl _) (by simp) ?_; (case hd => rfl); (case hg => rfl); (case hr => first | (go_simp; done) | (go_simp; rfl)); (case hp => exact (Reps.one (show Kd.M (Kd.int .i64) _ _ _ a0_0 [.int .i64 a0_0] from rfl) (Reps.one (show Kd.M (Kd.int .i64) _ _ _ a0_1 [.int .i64 a0_1] from rfl) (Reps.none _ _)))); intro v232 w5 ho6 hb hg_ hnew_; clear hg_ hnew_; (first | rw [← Ny231.out] at ho6 | (simp only [Int.reduceToNat] at ho6; rw [← Ny231.out] at ho6)); have HO233 := XPrint.A0 (Kd.R_lower ho6 (below_size (by exact XPrint.bz HB.out))); replace BK230 := XPrint.A0 (XPrint.ab BK230.out hb); replace HB := XPrint.A0 (below_step (by exact XPrint.bz HB.out) hb); clear hb ho6; obtain ⟨Ao7, co7, eo7⟩ := Kd.R_slice HO233.out; subst eo7) | ((with_reducible refine gate_callee (f := 129) rfl ?_); refine XPrint.gl (some 8) Try.func129 #[.slice Ao7 y231.length co7] ?_; (with_reducible refine (vec_fits_int64.calls k _ _ y231 t234 _ ?side1 ?side2 A2.out).mono ?_); (case side1 => repeat (first | exact (Kd.R_reads' HO233.out).2.2 | (with_reducible refine Kd.C_alloc ?_ _) | (with_reducible refine Kd.C_drewN ?_ _) | (with_reducible refine Kd.C_drew ?_))); (case side2 => exact (Kd.R_reads' HO233.out).2.1); rintro e w' ⟨rfl, ⟨nd, rfl⟩⟩; refine ⟨_, rfl, ?_⟩))
 go_ret
 exact ⟨by first | rfl | (simp [errW_none, errW_some] <;> rfl) | (simp [*, errW_none, errW_some] <;> rfl), by exact XPrint.bz HB.out⟩

/-! ### vec_told: function 156 -/
def vec_told.l0 : Nat → List (S23) → List (S23) → Int → Int → Option (Int × Int × Int)
 | 0, _, _, _, _ => none
 | k + 1, x0, x6, x7, x8 => if x8 < x7 then (if 0 ≤ x8 then (if x8 < (x6.length : Int) then ((vec_May.f k ((rd_T23 x6 x8).f0) ((rd_T23 x6 x8).f1)).bind fun t238 => (if t238 = true then (vec_told.l0 k x0 x6 x7 (wrap64 (x8 + 1))) else (some (0, 0, 10)))) else (none)) else (none)) else (if 0 < (x0.length : Int) then (some ((rd_T23 x0 0).f0, (rd_T23 x0 0).f1, 0)) else (none))
def vec_told.f (k : Nat) (l0 : List (S23)) : Option (Int × Int × Int) := vec_told.l0 k l0 l0 (l0.length : Int) 0
theorem vec_told.mono_l : ∀ k, (∀ y0 y1 y2 y3, LeO (vec_told.l0 k y0 y1 y2 y3) (vec_told.l0 (k + 1) y0 y1 y2 y3))
 | 0 => fun _ _ _ _ r h => by simp [vec_told.l0] at h
 | k + 1 => by
  have ih0 := vec_told.mono_l k
  ·intro y0 y1 y2 y3
   unfold vec_told.l0
   repeat' first
   | (with_reducible exact ih0 _ _ _ _)
   | (with_reducible exact vec_May.mono _ _ _)
   | (with_reducible exact LeO.refl _)
   | (with_reducible exact LeO.none _)
   | (with_reducible refine LeO.ite ?_ ?_)
   | (with_reducible refine LeO.bind ?_ (fun _ => ?_))
   | exact ih0 _ _ _ _
   | exact vec_May.mono _ _ _
   | exact LeO.none _
   | refine LeO.ite ?_ ?_
   | refine LeO.bind ?_ (fun _ => ?_)
theorem vec_told.mono : ∀ a0 k, LeO (vec_told.f k a0) (vec_told.f (k + 1) a0) := by
 intro a0 k
 have ih0 := vec_told.mono_l k
 unfold vec_told.f
 repeat' first
   | (with_reducible exact ih0 _ _ _ _)
   | (with_reducible exact vec_May.mono _ _ _)
   | (with_reducible exact LeO.refl _)
   | (with_reducible exact LeO.none _)
   | (with_reducible refine LeO.ite ?_ ?_)
   | (with_reducible refine LeO.bind ?_ (fun _ => ?_))
   | exact ih0 _ _ _ _
   | exact vec_May.mono _ _ _
   | exact LeO.none _
   | refine LeO.ite ?_ ?_
   | refine LeO.bind ?_ (fun _ => ?_)
set_option maxHeartbeats 8000000 in
set_option maxRecDepth 100000 in
theorem vec_told.calls (k : Nat) (A0 : Option Addr) (c0 : Nat) (l0 : List (S23)) (r1 : Int) (r2 : Int) (r3 : Int) (w : World) (hr0 : Kd.C k23 w A0 l0.length l0) (hc0 : l0.length ≤ c0) (h : vec_told.f k l0 = some (r1, r2, r3)) :
  Calls Try.prog 156 #[.slice A0 l0.length c0] w fun e w' => e = .returned (.tuple #[.agg #[.int .i64 r1, .int .i64 r2], .int .i64 r3]) ∧ Below w.heap.size w w' := by
 have hu23 := Try.underlying23
 have HR0 := XPrint.A0 hr0
 have HC0 := XPrint.A0 hc0
 clear hr0 hc0
 have HB := XPrint.A0 (Below.refl w.heap.size w)
 have H : (vec_told.l0 k l0 l0 (l0.length : Int) 0) = some (r1, r2, r3) := h
 clear h
 have H' := XPrint.A0 H
 clear H
 go_enter Try.func156, Try.ntmps156
 go_wp2_with (first | ((with_reducible refine gate_dst (N := 2) rfl ?_); refine box_event ?hg (N := 2) ?hd (cs := #[.int .i64 0, .int .i64 0]) (t := 23) ?hr ?_; (case hd => rfl); (case hg => rfl); (case hr => first | (go_simp; done) | (go_simp; rfl)); intro gb235 hg w2 hbox hb; have BK235 := XPrint.A0 (hbox); have GW235 := XPrint.A0 (XPrint.gz HB.out hg); have GE235 := XPrint.A0 (XPrint.gz HB.out hg); replace HB := XPrint.A0 (below_step (by exact XPrint.bz HB.out) hb); clear hb hbox hg))
 go_loopg [8] k (fun kq v8 w' => ∃ (x8_1 : Int) (x236000_1 : Int) (x236001_1 : Int), v8 = .int .i64 x8_1 ∧ Aside0 (vec_told.l0 kq l0 l0 (l0.length : Int) x8_1 = some (r1, r2, r3)) ∧ Aside0 (kq ≤ k) ∧ Aside0 (w'.heap[gb235]? = some (.cells #[.int .i64 x236000_1, .int .i64 x236001_1] 23 (0, 0))) ∧ Aside0 (Below w.heap.size w w'))
 case atStart => exact ⟨(0), (0), (0), (by first | rfl | (simp; done) | (simp [*]; done)), H', ⟨Nat.le_refl _⟩, ⟨by (repeat with_reducible first | refine XPrint.d1 ?_ | refine XPrint.d2 ?_ _ | refine XPrint.d3 ?_ _); exact BK235.out⟩, ⟨by exact XPrint.bz HB.out⟩⟩
 case round =>
  clear H'
  try clear c1
  try clear p2
  obtain ⟨x8_1, x236000_1, x236001_1, rfl, HA, HK1, BK235, HB⟩ := hrel
  cases gk with
  | zero => exact absurd HA.out (by simp [vec_told.l0])
  | succ k1 =>
   have H := HA.out
   clear HA
   simp only [vec_told.l0] at H
   by_cases c3 : x8_1 < (l0.length : Int)
   ·rw [if_pos c3] at H
    have c3b0 : decide (x8_1 < (l0.length : Int)) = true := decide_eq_true c3
    clear c3
    by_cases c4 : 0 ≤ x8_1
    ·rw [if_pos c4] at H
     have c4b0 : decide (0 ≤ x8_1) = true := decide_eq_true c4
     clear c4
     by_cases c5 : x8_1 < (l0.length : Int)
     ·rw [if_pos c5] at H
      have c5b0 : decide (x8_1 < (l0.length : Int)) = true := decide_eq_true c5
      clear c5
      replace H := Option.bind_eq_some_iff.mp H
      obtain ⟨t238, A60, H⟩ := H
      replace H : (if t238 = true then (vec_told.l0 k1 l0 l0 (l0.length : Int) (wrap64 (x8_1 + 1))) else (some (0, 0, 10))) = some (r1, r2, r3) := H
      have A6 := XPrint.A0 A60
      clear A60
      by_cases c7 : t238 = true
      ·subst c7
       have H1 := H; rw [if_pos rfl] at H1
       clear H
       have H := H1
       clear H1
       have H' := XPrint.A0 H
       clear H
       have p236 : 0 ≤ (x8_1 : Int) := of_decide_eq_true (by first | (with_reducible assumption) | assumption)
       have q236 : x8_1 < (l0.length : Int) := of_decide_eq_true (by first | (with_reducible assumption) | assumption)
       obtain ⟨ad236, e236, hx236_0, hx236_1⟩ := at_T23 HR0.out x8_1 p236 q236
       cases e236
       replace hx236_0 := (HB.out.cell (World.block_lt_of_cell? w _ hx236_0)).trans hx236_0
       replace hx236_1 := (HB.out.cell (World.block_lt_of_cell? w _ hx236_1)).trans hx236_1
       replace p236 := eq_true p236
       replace q236 := eq_true q236
       go_wp2_with (first | ((with_reducible refine gate_dst (N := 5) rfl ?_); refine box_event ?hg (N := 5) ?hd (cs := #[.int .i64 0, .int .i64 0]) (t := 23) ?hr ?_; (case hd => rfl); (case hg => rfl); (case hr => first | (go_simp; done) | (go_simp; rfl)); intro gb237 hg w8 hbox hb; have BK237 := XPrint.A0 (hbox); have GW237 := XPrint.A0 (XPrint.gz HB.out hg); have GE237 := XPrint.A0 (XPrint.gz HB.out hg); have NB235_237 := XPrint.A1 (by rw [hg]; exact Nat.ne_of_lt (XPrint.al BK235.out) : gb235 ≠ gb237); have NB237_235 := XPrint.A1 (by rw [hg]; exact Nat.ne_of_gt (XPrint.al BK235.out) : gb237 ≠ gb235); replace BK235 := XPrint.A0 (XPrint.ab BK235.out hb); replace HB := XPrint.A0 (below_step (by exact XPrint.bz HB.out) hb); clear hb hbox hg; have hnb9 := NB237_235.out; have hnc9 := NB235_237.out; have hcz10_0 : w8.cell? ⟨gb237, 0, none⟩ = some (.int .i64 0) := (blk_cell BK237.out 0).trans rfl; have hcz10_1 : w8.cell? ⟨gb237, 1, none⟩ = some (.int .i64 0) := (blk_cell BK237.out 1).trans rfl; have hfz10_0 := blk_frozen BK237.out 0; have hfz10_1 := blk_frozen BK237.out 1) | ((with_reducible refine gate_callee (f := 126) rfl ?_); refine XPrint.gl (some 13) Try.func126 #[.agg #[.int .i64 ((rd_T23 l0 x8_1).f0), .int .i64 ((rd_T23 l0 x8_1).f1)]] ?_; (with_reducible refine (vec_May.calls k1 ((rd_T23 l0 x8_1).f0) ((rd_T23 l0 x8_1).f1) true _ A6.out).mono ?_); rintro e w11 ⟨rfl, hb⟩; refine ⟨_, rfl, ?_⟩; replace BK235 := XPrint.A0 (XPrint.ab BK235.out hb); replace BK237 := XPrint.A0 (blk_below (g := gb237) (o := .cells #[.int .i64 ((rd_T23 l0 x8_1).f0), .int .i64 ((rd_T23 l0 x8_1).f1)] 23 (0, 0)) (by (repeat with_reducible first | refine XPrint.d1 ?_ | refine XPrint.d2 ?_ _ | refine XPrint.d3 ?_ _); refine blk_put (cs := #[.int .i64 ((rd_T23 l0 x8_1).f0), .int .i64 0]) ?_ 1 _ rfl; (repeat with_reducible first | refine XPrint.d1 ?_ | refine XPrint.d2 ?_ _ | refine XPrint.d3 ?_ _); refine blk_put (cs := #[.int .i64 0, .int .i64 0]) ?_ 0 _ rfl; (repeat with_reducible first | refine XPrint.d1 ?_ | refine XPrint.d2 ?_ _ | refine XPrint.d3 ?_ _); exact BK237.out) hb); replace HB := XPrint.A0 (below_step (by repeat (first | (with_reducible first | exact HB.out | apply below_alloc | apply pw_below_drewN | apply below_drew1 | refine below_set ?_ GE235.out | refine below_set ?_ GE237.out) | exact HB.out)) hb); (try clear hb); (try clear hb2); (try clear hk); (try clear hi)))
       go_roundg k1
       case measure => have := HK1.out; omega
       case rel => exact ⟨(wrap64 (x8_1 + 1)), (x236000_1), (x236001_1), (by first | rfl | (simp; done) | (simp [*]; done)), H', ⟨by have := HK1.out; omega⟩, ⟨by (repeat with_reducible first | refine XPrint.d1 ?_ | refine XPrint.d2 ?_ _ | refine XPrint.d3 ?_ _); exact BK235.out⟩, ⟨by exact XPrint.bz HB.out⟩⟩
      ·replace c7 := Bool.eq_false_iff.mpr c7
       subst c7
       have H1 := H; rw [if_neg (show ¬ (false = true) by decide)] at H1
       clear H
       have H := H1
       clear H1
       simp only [Option.some.injEq, Prod.mk.injEq] at H
       obtain ⟨rfl, rfl, rfl⟩ := H
       have p236 : 0 ≤ (x8_1 : Int) := of_decide_eq_true (by first | (with_reducible assumption) | assumption)
       have q236 : x8_1 < (l0.length : Int) := of_decide_eq_true (by first | (with_reducible assumption) | assumption)
       obtain ⟨ad236, e236, hx236_0, hx236_1⟩ := at_T23 HR0.out x8_1 p236 q236
       cases e236
       replace hx236_0 := (HB.out.cell (World.block_lt_of_cell? w _ hx236_0)).trans hx236_0
       replace hx236_1 := (HB.out.cell (World.block_lt_of_cell? w _ hx236_1)).trans hx236_1
       replace p236 := eq_true p236
       replace q236 := eq_true q236
       go_wp2_with (first | ((with_reducible refine gate_dst (N := 5) rfl ?_); refine box_event ?hg (N := 5) ?hd (cs := #[.int .i64 0, .int .i64 0]) (t := 23) ?hr ?_; (case hd => rfl); (case hg => rfl); (case hr => first | (go_simp; done) | (go_simp; rfl)); intro gb237 hg w12 hbox hb; have BK237 := XPrint.A0 (hbox); have GW237 := XPrint.A0 (XPrint.gz HB.out hg); have GE237 := XPrint.A0 (XPrint.gz HB.out hg); have NB235_237 := XPrint.A1 (by rw [hg]; exact Nat.ne_of_lt (XPrint.al BK235.out) : gb235 ≠ gb237); have NB237_235 := XPrint.A1 (by rw [hg]; exact Nat.ne_of_gt (XPrint.al BK235.out) : gb237 ≠ gb235); replace BK235 := XPrint.A0 (XPrint.ab BK235.out hb); replace HB := XPrint.A0 (below_step (by exact XPrint.bz HB.out) hb); clear hb hbox hg; have hnb13 := NB237_235.out; have hnc13 := NB235_237.out; have hcz14_0 : w12.cell? ⟨gb237, 0, none⟩ = some (.int .i64 0) := (blk_cell BK237.out 0).trans rfl; have hcz14_1 : w12.cell? ⟨gb237, 1, none⟩ = some (.int .i64 0) := (blk_cell BK237.out 1).trans rfl; have hfz14_0 := blk_frozen BK237.out 0; have hfz14_1 := blk_frozen BK237.out 1) | ((with_reducible refine gate_callee (f := 126) rfl ?_); refine XPrint.gl (some 13) Try.func126 #[.agg #[.int .i64 ((rd_T23 l0 x8_1).f0), .int .i64 ((rd_T23 l0 x8_1).f1)]] ?_; (with_reducible refine (vec_May.calls k1 ((rd_T23 l0 x8_1).f0) ((rd_T23 l0 x8_1).f1) false _ A6.out).mono ?_); rintro e w15 ⟨rfl, hb⟩; refine ⟨_, rfl, ?_⟩; replace BK235 := XPrint.A0 (XPrint.ab BK235.out hb); replace BK237 := XPrint.A0 (blk_below (g := gb237) (o := .cells #[.int .i64 ((rd_T23 l0 x8_1).f0), .int .i64 ((rd_T23 l0 x8_1).f1)] 23 (0, 0)) (by (repeat with_reducible first | refine XPrint.d1 ?_ | refine XPrint.d2 ?_ _ | refine XPrint.d3 ?_ _); refine blk_put (cs := #[.int .i64 ((rd_T23 l0 x8_1).f0), .int .i64 0]) ?_ 1 _ rfl; (repeat with_reducible first | refine XPrint.d1 ?_ | refine XPrint.d2 ?_ _ | refine XPrint.d3 ?_ _); refine blk_put (cs := #[.int .i64 0, .int .i64 0]) ?_ 0 _ rfl; (repeat with_reducible first | refine XPrint.d1 ?_ | refine XPrint.d2 ?_ _ | refine XPrint.d3 ?_ _); exact BK237.out) hb); replace HB := XPrint.A0 (below_step (by repeat (first | (with_reducible first | exact HB.out | apply below_alloc | apply pw_below_drewN | apply below_drew1 | refine below_set ?_ GE235.out | refine below_set ?_ GE237.out) | exact HB.out)) hb); (try clear hb); (try clear hb2); (try clear hk); (try clear hi); have hcz16_0 : w15.cell? ⟨gb235, 0, none⟩ = some (.int .i64 x236000_1) := (blk_cell BK235.out 0).trans rfl; have hcz16_1 : w15.cell? ⟨gb235, 1, none⟩ = some (.int .i64 x236001_1) := (blk_cell BK235.out 1).trans rfl; have hfz16_0 := blk_frozen BK235.out 0; have hfz16_1 := blk_frozen BK235.out 1))
       refine bodyPost_ret (results_ct rfl _ _ gb235 23 #[.int .i64 0, .int .i64 0] (0, 0) _ rfl (by (repeat with_reducible first | refine XPrint.d1 ?_ | refine XPrint.d2 ?_ _ | refine XPrint.d3 ?_ _); refine blk_put (cs := #[.int .i64 0, .int .i64 x236001_1]) ?_ 1 _ rfl; (repeat with_reducible first | refine XPrint.d1 ?_ | refine XPrint.d2 ?_ _ | refine XPrint.d3 ?_ _); refine blk_put (cs := #[.int .i64 x236000_1, .int .i64 x236001_1]) ?_ 0 _ rfl; (repeat with_reducible first | refine XPrint.d1 ?_ | refine XPrint.d2 ?_ _ | refine XPrint.d3 ?_ _); exact BK235.out) Try.underlying23 rfl (by kernel_rfl)) rfl ?_
       exact ⟨by first | rfl | (simp [errW_none, errW_some] <;> rfl) | (simp [*, errW_none, errW_some] <;> rfl), by repeat (first | (with_reducible first | exact HB.out | apply below_alloc | apply pw_below_drewN | apply below_drew1 | refine below_set ?_ GE235.out | refine below_set ?_ GE237.out) | exact HB.out)⟩
     ·rw [if_neg c5] at H
      exact absurd H (by simp)
    ·rw [if_neg c4] at H
     exact absurd H (by simp)
   ·rw [if_neg c3] at H
    have c3b0 : decide (x8_1 < (l0.length : Int)) = false := decide_eq_false c3
    clear c3
    by_cases c17 : 0 < (l0.length : Int)
    ·rw [if_pos c17] at H
     have c17b0 : decide (0 < (l0.length : Int)) = true := decide_eq_true c17
     have c17b1 : decide (0 < l0.length) = true := decide_eq_true (by omega)
     clear c17
     simp only [Option.some.injEq, Prod.mk.injEq] at H
     obtain ⟨rfl, rfl, rfl⟩ := H
     have p239 : 0 ≤ (0 : Int) := (by omega)
     have q239 : 0 < (l0.length : Int) := of_decide_eq_true (by first | (with_reducible assumption) | assumption)
     obtain ⟨ad239, e239, hx239_0, hx239_1⟩ := at_T23 HR0.out 0 p239 q239
     cases e239
     have qi239 : (0 < l0.length) = True := eq_true (by omega)
     (try rw [show ((0 : Int)).toNat = 0 from rfl] at hx239_0)
     (try rw [show 0 * 2 = 0 from rfl] at hx239_0)
     (try rw [Addr.add_zero'] at hx239_0)
     (try rw [show ((0 : Int)).toNat = 0 from rfl] at hx239_1)
     (try rw [show 0 * 2 = 0 from rfl] at hx239_1)
     (try rw [Addr.add_zero'] at hx239_1)
     replace hx239_0 := (HB.out.cell (World.block_lt_of_cell? w _ hx239_0)).trans hx239_0
     replace hx239_1 := (HB.out.cell (World.block_lt_of_cell? w _ hx239_1)).trans hx239_1
     replace p239 := eq_true p239
     replace q239 := eq_true q239
     have hcz18_0 : wr.cell? ⟨gb235, 0, none⟩ = some (.int .i64 x236000_1) := (blk_cell BK235.out 0).trans rfl
     have hcz18_1 : wr.cell? ⟨gb235, 1, none⟩ = some (.int .i64 x236001_1) := (blk_cell BK235.out 1).trans rfl
     have hfz18_0 := blk_frozen BK235.out 0
     have hfz18_1 := blk_frozen BK235.out 1
     go_wp2
     refine bodyPost_ret (results_ct rfl _ _ gb235 23 #[.int .i64 ((rd_T23 l0 0).f0), .int .i64 ((rd_T23 l0 0).f1)] (0, 0) _ rfl (by (repeat with_reducible first | refine XPrint.d1 ?_ | refine XPrint.d2 ?_ _ | refine XPrint.d3 ?_ _); refine blk_put (cs := #[.int .i64 ((rd_T23 l0 0).f0), .int .i64 x236001_1]) ?_ 1 _ rfl; (repeat with_reducible first | refine XPrint.d1 ?_ | refine XPrint.d2 ?_ _ | refine XPrint.d3 ?_ _); refine blk_put (cs := #[.int .i64 x236000_1, .int .i64 x236001_1]) ?_ 0 _ rfl; (repeat with_reducible first | refine XPrint.d1 ?_ | refine XPrint.d2 ?_ _ | refine XPrint.d3 ?_ _); exact BK235.out) Try.underlying23 rfl (by kernel_rfl)) rfl ?_
     exact ⟨by first | rfl | (simp [errW_none, errW_some] <;> rfl) | (simp [*, errW_none, errW_some] <;> rfl), by repeat (first | (with_reducible first | exact HB.out | apply below_alloc | apply pw_below_drewN | apply below_drew1 | refine below_set ?_ GE235.out) | exact HB.out)⟩
    ·rw [if_neg c17] at H
     exact absurd H (by simp)

/-! ### vec_Units_1: function 158 -/
def vec_Units_1.f (a0 : Int) (a1 : Int) : Option (Int) := if a0 < 0 then (some 0) else (if a1 = 0 then (none) else (some (wrap64 (Int.tdiv a0 a1))))
set_option maxHeartbeats 8000000 in
set_option maxRecDepth 100000 in
theorem vec_Units_1.calls (a0 : Int) (a1 : Int) (r : Int) (w : World) (h : vec_Units_1.f a0 a1 = some r) :
  Calls Try.prog 158 #[.int .i64 a0, .int .i64 a1] w fun e w' => e = .returned (.int .i64 r) ∧ Drawn0 w w' := by
 have H : (if a0 < 0 then (some 0) else (if a1 = 0 then (none) else (some (wrap64 (Int.tdiv a0 a1))))) = some r := h
 clear h
 by_cases c3 : a0 < 0
 ·rw [if_pos c3] at H
  have c3b0 : decide (a0 < 0) = true := decide_eq_true c3
  clear c3
  obtain rfl := Option.some.inj H
  go_enter Try.func158, Try.ntmps158
  go_wp2
  go_ret
  exact ⟨by first | rfl | (simp; done) | (simp [*]; done), by repeat (first | exact Drawn0.refl _ | apply Drawn0.step)⟩
 ·rw [if_neg c3] at H
  have c3b0 : decide (a0 < 0) = false := decide_eq_false c3
  clear c3
  by_cases c4 : a1 = 0
  ·rw [if_pos c4] at H
   exact absurd H (by simp)
  ·rw [if_neg c4] at H
   have c4b0 : (a1 == 0) = false := beq_eq_false_iff_ne.mpr c4
   have c4b1 : (a1 != 0) = true := bne_iff_ne.mpr c4
   obtain rfl := Option.some.inj H
   go_enter Try.func158, Try.ntmps158
   go_wp2
   go_ret
   exact ⟨by first | rfl | (simp; done) | (simp [*]; done), by repeat (first | exact Drawn0.refl _ | apply Drawn0.step)⟩

/-! ### vec_both_int64_at_vec_Units_1: function 10157 -/
def vec_both_int64_at_vec_Units_1.f (a0_0 : Int) (a0_1 : Int) (a1_0 : Int) (a1_1 : Int)  : Option (Int × Int) := (vec_Units_1.f a0_0 a1_0).bind fun t242 => ((vec_Units_1.f a0_1 a1_1).bind fun t243 => (some (t242, t243)))
set_option maxHeartbeats 8000000 in
set_option maxRecDepth 100000 in
theorem vec_both_int64_at_vec_Units_1.calls (a0_0 : Int) (a0_1 : Int) (a1_0 : Int) (a1_1 : Int)  (r1 : Int) (r2 : Int) (w : World) (h : vec_both_int64_at_vec_Units_1.f a0_0 a0_1 a1_0 a1_1 = some (r1, r2)) :
  Calls Try.prog 157 #[.agg #[.int .i64 a0_0, .int .i64 a0_1], .agg #[.int .i64 a1_0, .int .i64 a1_1], .func (.func 158) #[] #[]] w fun e w' => e = .returned (.tuple #[.int .i64 r1, .int .i64 r2]) ∧ Below w.heap.size w w' := by
 have hu23 := Try.underlying23
 have HB := XPrint.A0 (Below.refl w.heap.size w)
 have H : ((vec_Units_1.f a0_0 a1_0).bind fun t242 => ((vec_Units_1.f a0_1 a1_1).bind fun t243 => (some (t242, t243)))) = some (r1, r2) := h
 clear h
 replace H := Option.bind_eq_some_iff.mp H
 obtain ⟨t242, A40, H⟩ := H
 replace H : ((vec_Units_1.f a0_1 a1_1).bind fun t243 => (some (t242, t243))) = some (r1, r2) := H
 have A4 := XPrint.A0 A40
 clear A40
 replace H := Option.bind_eq_some_iff.mp H
 obtain ⟨t243, A50, H⟩ := H
 replace H : (some (t242, t243)) = some (r1, r2) := H
 have A5 := XPrint.A0 A50
 clear A50
 simp only [Option.some.injEq, Prod.mk.injEq] at H
 obtain ⟨rfl, rfl⟩ := H
 go_enter Try.func157, Try.ntmps157
 go_wp2_with (first | ((with_reducible refine gate_dst (N := 3) rfl ?_); refine box_event ?hg (N := 3) ?hd (cs := #[.int .i64 a0_0, .int .i64 a0_1]) (t := 23) ?hr ?_; (case hd => rfl); (case hg => rfl); (case hr => first | (go_simp; done) | (go_simp; rfl)); intro gb240 hg w6 hbox hb; have BK240 := XPrint.A0 (hbox); have GW240 := XPrint.A0 (XPrint.gz HB.out hg); have GE240 := XPrint.A0 (XPrint.gz HB.out hg); replace HB := XPrint.A0 (below_step (by exact XPrint.bz HB.out) hb); clear hb hbox hg) | ((with_reducible refine gate_dst (N := 4) rfl ?_); refine box_event ?hg (N := 4) ?hd (cs := #[.int .i64 a1_0, .int .i64 a1_1]) (t := 23) ?hr ?_; (case hd => rfl); (case hg => rfl); (case hr => first | (go_simp; done) | (go_simp; rfl)); intro gb241 hg w7 hbox hb; have BK241 := XPrint.A0 (hbox); have GW241 := XPrint.A0 (XPrint.gz HB.out hg); have GE241 := XPrint.A0 (XPrint.gz HB.out hg); have NB240_241 := XPrint.A1 (by rw [hg]; exact Nat.ne_of_lt (XPrint.al BK240.out) : gb240 ≠ gb241); have NB241_240 := XPrint.A1 (by rw [hg]; exact Nat.ne_of_gt (XPrint.al BK240.out) : gb241 ≠ gb240); replace BK240 := XPrint.A0 (XPrint.ab BK240.out hb); replace HB := XPrint.A0 (below_step (by exact XPrint.bz HB.out) hb); clear hb hbox hg; have hnb8 := NB240_241.out; have hnc8 := NB241_240.out; have hcz9_0 : w7.cell? ⟨gb240, 0, none⟩ = some (.int .i64 a0_0) := (blk_cell BK240.out 0).trans rfl; have hcz9_1 : w7.cell? ⟨gb240, 1, none⟩ = some (.int .i64 a0_1) := (blk_cell BK240.out 1).trans rfl; have hfz9_0 := blk_frozen BK240.out 0; have hfz9_1 := blk_frozen BK240.out 1; have hcz10_0 : w7.cell? ⟨gb241, 0, none⟩ = some (.int .i64 a1_0) := (blk_cell BK241.out 0).trans rfl; have hcz10_1 : w7.cell? ⟨gb241, 1, none⟩ = some (.int .i64 a1_1) := (blk_cell BK241.out 1).trans rfl; have hfz10_0 := blk_frozen BK241.out 0; have hfz10_1 := blk_frozen BK241.out 1) | (go_at_call 158; (with_reducible refine (vec_Units_1.calls a0_0 a1_0 t242 _ A4.out).mono ?_); rintro e w' ⟨rfl, ⟨nd, rfl⟩⟩; (try first | exact ⟨rfl, _, World.drewN_drewN _ _ _⟩ | exact ⟨rfl, _, Eq.trans (World.drewN_drewN _ _ _) (congrArg (World.drewN _) (Nat.add_assoc _ _ _))⟩)) | (go_at_call 158; (with_reducible refine (vec_Units_1.calls a0_1 a1_1 t243 _ A5.out).mono ?_); rintro e w' ⟨rfl, ⟨nd, rfl⟩⟩; (try first | exact ⟨rfl, _, World.drewN_drewN _ _ _⟩ | exact ⟨rfl, _, Eq.trans (World.drewN_drewN _ _ _) (congrArg (World.drewN _) (Nat.add_assoc _ _ _))⟩)))
 repeat (go_quiet (first | ((with_reducible refine gate_dst (N := 3) rfl ?_); refine box_event ?hg (N := 3) ?hd (cs := #[.int .i64 a0_0, .int .i64 a0_1]) (t := 23) ?hr ?_; (case hd => rfl); (case hg => rfl); (case hr => first | (go_simp; done) | (go_simp; rfl)); intro gb240 hg w6 hbox hb; have BK240 := XPrint.A0 (hbox); have GW240 := XPrint.A0 (XPrint.gz HB.out hg); have GE240 := XPrint.A0 (XPrint.gz HB.out hg); replace HB := XPrint.A0 (below_step (by exact XPrint.bz HB.out) hb); clear hb hbox hg) | ((with_reducible refine gate_dst (N := 4) rfl ?_); refine box_event ?hg (N := 4) ?hd (cs := #[.int .i64 a1_0, .int .i64 a1_1]) (t := 23) ?hr ?_; (case hd => rfl); (case hg => rfl); (case hr => first | (go_simp; done) | (go_simp; rfl)); intro gb241 hg w7 hbox hb; have BK241 := XPrint.A0 (hbox); have GW241 := XPrint.A0 (XPrint.gz HB.out hg); have GE241 := XPrint.A0 (XPrint.gz HB.out hg); have NB240_241 := XPrint.A1 (by rw [hg]; exact Nat.ne_of_lt (XPrint.al BK240.out) : gb240 ≠ gb241); have NB241_240 := XPrint.A1 (by rw [hg]; exact Nat.ne_of_gt (XPrint.al BK240.out) : gb241 ≠ gb240); replace BK240 := XPrint.A0 (XPrint.ab BK240.out hb); replace HB := XPrint.A0 (below_step (by exact XPrint.bz HB.out) hb); clear hb hbox hg; have hnb8 := NB240_241.out; have hnc8 := NB241_240.out; have hcz9_0 : w7.cell? ⟨gb240, 0, none⟩ = some (.int .i64 a0_0) := (blk_cell BK240.out 0).trans rfl; have hcz9_1 : w7.cell? ⟨gb240, 1, none⟩ = some (.int .i64 a0_1) := (blk_cell BK240.out 1).trans rfl; have hfz9_0 := blk_frozen BK240.out 0; have hfz9_1 := blk_frozen BK240.out 1; have hcz10_0 : w7.cell? ⟨gb241, 0, none⟩ = some (.int .i64 a1_0) := (blk_cell BK241.out 0).trans rfl; have hcz10_1 : w7.cell? ⟨gb241, 1, none⟩ = some (.int .i64 a1_1) := (blk_cell BK241.out 1).trans rfl; have hfz10_0 := blk_frozen BK241.out 0; have hfz10_1 := blk_frozen BK241.out 1) | (go_at_call 158; (with_reducible refine (vec_Units_1.calls a0_0 a1_0 t242 _ A4.out).mono ?_); rintro e w' ⟨rfl, ⟨nd, rfl⟩⟩; (try first | exact ⟨rfl, _, World.drewN_drewN _ _ _⟩ | exact ⟨rfl, _, Eq.trans (World.drewN_drewN _ _ _) (congrArg (World.drewN _) (Nat.add_assoc _ _ _))⟩)) | (go_at_call 158; (with_reducible refine (vec_Units_1.calls a0_1 a1_1 t243 _ A5.out).mono ?_); rintro e w' ⟨rfl, ⟨nd, rfl⟩⟩; (try first | exact ⟨rfl, _, World.drewN_drewN _ _ _⟩ | exact ⟨rfl, _, Eq.trans (World.drewN_drewN _ _ _) (congrArg (World.drewN _) (Nat.add_assoc _ _ _))⟩))); try go_wp2_with (first | ((with_reducible refine gate_dst (N := 3) rfl ?_); refine box_event ?hg (N := 3) ?hd (cs := #[.int .i64 a0_0, .int .i64 a0_1]) (t := 23) ?hr ?_; (case hd => rfl); (case hg => rfl); (case hr => first | (go_simp; done) | (go_simp; rfl)); intro gb240 hg w6 hbox hb; have BK240 := XPrint.A0 (hbox); have GW240 := XPrint.A0 (XPrint.gz HB.out hg); have GE240 := XPrint.A0 (XPrint.gz HB.out hg); replace HB := XPrint.A0 (below_step (by exact XPrint.bz HB.out) hb); clear hb hbox hg) | ((with_reducible refine gate_dst (N := 4) rfl ?_); refine box_event ?hg (N := 4) ?hd (cs := #[.int .i64 a1_0, .int .i64 a1_1]) (t := 23) ?hr ?_; (case hd => rfl); (case hg => rfl); (case hr => first | (go_simp; done) | (go_simp; rfl)); intro gb241 hg w7 hbox hb; have BK241 := XPrint.A0 (hbox); have GW241 := XPrint.A0 (XPrint.gz HB.out hg); have GE241 := XPrint.A0 (XPrint.gz HB.out hg); have NB240_241 := XPrint.A1 (by rw [hg]; exact Nat.ne_of_lt (XPrint.al BK240.out) : gb240 ≠ gb241); have NB241_240 := XPrint.A1 (by rw [hg]; exact Nat.ne_of_gt (XPrint.al BK240.out) : gb241 ≠ gb240); replace BK240 := XPrint.A0 (XPrint.ab BK240.out hb); replace HB := XPrint.A0 (below_step (by exact XPrint.bz HB.out) hb); clear hb hbox hg; have hnb8 := NB240_241.out; have hnc8 := NB241_240.out; have hcz9_0 : w7.cell? ⟨gb240, 0, none⟩ = some (.int .i64 a0_0) := (blk_cell BK240.out 0).trans rfl; have hcz9_1 : w7.cell? ⟨gb240, 1, none⟩ = some (.int .i64 a0_1) := (blk_cell BK240.out 1).trans rfl; have hfz9_0 := blk_frozen BK240.out 0; have hfz9_1 := blk_frozen BK240.out 1; have hcz10_0 : w7.cell? ⟨gb241, 0, none⟩ = some (.int .i64 a1_0) := (blk_cell BK241.out 0).trans rfl; have hcz10_1 : w7.cell? ⟨gb241, 1, none⟩ = some (.int .i64 a1_1) := (blk_cell BK241.out 1).trans rfl; have hfz10_0 := blk_frozen BK241.out 0; have hfz10_1 := blk_frozen BK241.out 1) | (go_at_call 158; (with_reducible refine (vec_Units_1.calls a0_0 a1_0 t242 _ A4.out).mono ?_); rintro e w' ⟨rfl, ⟨nd, rfl⟩⟩; (try first | exact ⟨rfl, _, World.drewN_drewN _ _ _⟩ | exact ⟨rfl, _, Eq.trans (World.drewN_drewN _ _ _) (congrArg (World.drewN _) (Nat.add_assoc _ _ _))⟩)) | (go_at_call 158; (with_reducible refine (vec_Units_1.calls a0_1 a1_1 t243 _ A5.out).mono ?_); rintro e w' ⟨rfl, ⟨nd, rfl⟩⟩; (try first | exact ⟨rfl, _, World.drewN_drewN _ _ _⟩ | exact ⟨rfl, _, Eq.trans (World.drewN_drewN _ _ _) (congrArg (World.drewN _) (Nat.add_assoc _ _ _))⟩))))
 go_ret2
 exact ⟨by first | rfl | (simp [errW_none, errW_some] <;> rfl) | (simp [*, errW_none, errW_some] <;> rfl), by exact XPrint.bz HB.out⟩

/-! ### vec_Units: function 123 -/
def vec_Units.f (k : Nat) (a0_0 : Int) (a0_1 : Int) (a1_0 : Int) (a1_1 : Int) : Option (Int × Int) := (vec_LE.f 1 1 a1_0 a1_1).bind fun t246 => (if t246 = true then ((vec_told.f k (([(⟨a0_0, a0_1⟩ : S23), (⟨a1_0, a1_1⟩ : S23)] : List (S23)))).bind fun bt250 => (if bt250.2.2 = 0 then ((vec_both_int64_at_vec_Units_1.f a0_0 a0_1 a1_0 a1_1).bind fun bt254 => (some (mn bt254.1 bt254.2, 0))) else (some (0, bt250.2.2)))) else (some (0, 2)))
theorem vec_Units.mono : ∀ a0 a1 a2 a3 k, LeO (vec_Units.f k a0 a1 a2 a3) (vec_Units.f (k + 1) a0 a1 a2 a3) := by
 intro a0 a1 a2 a3 k
 unfold vec_Units.f
 repeat' first
   | (with_reducible exact vec_told.mono _ _)
   | (with_reducible exact LeO.refl _)
   | (with_reducible exact LeO.none _)
   | (with_reducible refine LeO.ite ?_ ?_)
   | (with_reducible refine LeO.bind ?_ (fun _ => ?_))
   | exact vec_told.mono _ _
   | exact LeO.none _
   | refine LeO.ite ?_ ?_
   | refine LeO.bind ?_ (fun _ => ?_)
set_option maxHeartbeats 8000000 in
set_option maxRecDepth 100000 in
theorem vec_Units.calls (k : Nat) (a0_0 : Int) (a0_1 : Int) (a1_0 : Int) (a1_1 : Int) (r1 : Int) (r2 : Int) (w : World) (h : vec_Units.f k a0_0 a0_1 a1_0 a1_1 = some (r1, r2)) :
  Calls Try.prog 123 #[.agg #[.int .i64 a0_0, .int .i64 a0_1], .agg #[.int .i64 a1_0, .int .i64 a1_1]] w fun e w' => e = .returned (.tuple #[.int .i64 r1, .int .i64 r2]) ∧ Below w.heap.size w w' := by
 have hu23 := Try.underlying23
 have HB := XPrint.A0 (Below.refl w.heap.size w)
 have H : ((vec_LE.f 1 1 a1_0 a1_1).bind fun t246 => (if t246 = true then ((vec_told.f k (([(⟨a0_0, a0_1⟩ : S23), (⟨a1_0, a1_1⟩ : S23)] : List (S23)))).bind fun bt250 => (if bt250.2.2 = 0 then ((vec_both_int64_at_vec_Units_1.f a0_0 a0_1 a1_0 a1_1).bind fun bt254 => (some (mn bt254.1 bt254.2, 0))) else (some (0, bt250.2.2)))) else (some (0, 2)))) = some (r1, r2) := h
 clear h
 replace H := Option.bind_eq_some_iff.mp H
 obtain ⟨t246, A30, H⟩ := H
 replace H : (if t246 = true then ((vec_told.f k (([(⟨a0_0, a0_1⟩ : S23), (⟨a1_0, a1_1⟩ : S23)] : List (S23)))).bind fun bt250 => (if bt250.2.2 = 0 then ((vec_both_int64_at_vec_Units_1.f a0_0 a0_1 a1_0 a1_1).bind fun bt254 => (some (mn bt254.1 bt254.2, 0))) else (some (0, bt250.2.2)))) else (some (0, 2))) = some (r1, r2) := H
 have A3 := XPrint.A0 A30
 clear A30
 by_cases c4 : t246 = true
 ·subst c4
  have H1 := H; rw [if_pos rfl] at H1
  clear H
  have H := H1
  clear H1
  obtain ⟨y247, hy247⟩ : ∃ y_ : List (S23), y_ = (([(⟨a0_0, a0_1⟩ : S23), (⟨a1_0, a1_1⟩ : S23)] : List (S23))) := ⟨_, rfl⟩
  replace H : ((vec_told.f k y247).bind fun bt250 => (if bt250.2.2 = 0 then ((vec_both_int64_at_vec_Units_1.f a0_0 a0_1 a1_0 a1_1).bind fun bt254 => (some (mn bt254.1 bt254.2, 0))) else (some (0, bt250.2.2)))) = some (r1, r2) := by first | (rw [hy247]; with_reducible exact H) | (have H2_ := (Option.bind_some _ _).symm.trans H; rw [hy247]; with_reducible exact H2_) | (have H2_ := (Option.bind_some _ _).symm.trans H; with_reducible exact H2_) | with_reducible exact H | (rw [hy247]; exact H) | exact H
  have Ny247 := XPrint.A0 hy247
  clear hy247
  replace H := Option.bind_eq_some_iff.mp H
  obtain ⟨⟨t250, t251, t252⟩, A50, H⟩ := H
  replace H : (if t252 = 0 then ((vec_both_int64_at_vec_Units_1.f a0_0 a0_1 a1_0 a1_1).bind fun bt254 => (some (mn bt254.1 bt254.2, 0))) else (some (0, t252))) = some (r1, r2) := H
  have A5 := XPrint.A0 A50
  clear A50
  by_cases c6 : t252 = 0
  ·rw [if_pos c6] at H
   have c6b0 : (t252 == 0) = true := beq_iff_eq.mpr c6
   have c6b1 : (t252 != 0) = false := bne_eq_false_iff_eq.mpr c6
   clear c6
   replace H := Option.bind_eq_some_iff.mp H
   obtain ⟨⟨t254, t255⟩, A70, H⟩ := H
   replace H : (some (mn t254 t255, 0)) = some (r1, r2) := H
   have A7 := XPrint.A0 A70
   clear A70
   obtain ⟨ji8, hji8⟩ : ∃ j_ : Int, (mn t254 t255) = j_ := ⟨_, rfl⟩
   replace H : (some (ji8, 0)) = some (r1, r2) := by first | (rw [hji8] at H; exact H) | (simp only [hji8] at H ⊢; exact H)
   (try rw [hji8] at A3)
   (try rw [hji8] at A5)
   (try rw [hji8] at A7)
   have hji8_ : (if t255 < t254 then t255 else t254) = ji8 := hji8
   simp only [Option.some.injEq, Prod.mk.injEq] at H
   obtain ⟨rfl, rfl⟩ := H
   go_enter Try.func123, Try.ntmps123
   go_wp2_with (first | ((with_reducible refine gate_dst (N := 2) rfl ?_); refine box_event ?hg (N := 2) ?hd (cs := #[.int .i64 a0_0, .int .i64 a0_1]) (t := 23) ?hr ?_; (case hd => rfl); (case hg => rfl); (case hr => first | (go_simp; done) | (go_simp; rfl)); intro gb244 hg w9 hbox hb; have BK244 := XPrint.A0 (hbox); have GW244 := XPrint.A0 (XPrint.gz HB.out hg); have GE244 := XPrint.A0 (XPrint.gz HB.out hg); replace HB := XPrint.A0 (below_step (by exact XPrint.bz HB.out) hb); clear hb hbox hg) | ((with_reducible refine gate_dst (N := 3) rfl ?_); refine box_event ?hg (N := 3) ?hd (cs := #[.int .i64 a1_0, .int .i64 a1_1]) (t := 23) ?hr ?_; (case hd => rfl); (case hg => rfl); (case hr => first | (go_simp; done) | (go_simp; rfl)); intro gb245 hg w10 hbox hb; have BK245 := XPrint.A0 (hbox); have GW245 := XPrint.A0 (XPrint.gz HB.out hg); have GE245 := XPrint.A0 (XPrint.gz HB.out hg); have NB244_245 := XPrint.A1 (by rw [hg]; exact Nat.ne_of_lt (XPrint.al BK244.out) : gb244 ≠ gb245); have NB245_244 := XPrint.A1 (by rw [hg]; exact Nat.ne_of_gt (XPrint.al BK244.out) : gb245 ≠ gb244); replace BK244 := XPrint.A0 (XPrint.ab BK244.out hb); replace HB := XPrint.A0 (below_step (by exact XPrint.bz HB.out) hb); clear hb hbox hg; have hnb11 := NB245_244.out; have hnc11 := NB244_245.out; have hcz12_0 : w10.cell? ⟨gb245, 0, none⟩ = some (.int .i64 a1_0) := (blk_cell BK245.out 0).trans rfl; have hcz12_1 : w10.cell? ⟨gb245, 1, none⟩ = some (.int .i64 a1_1) := (blk_cell BK245.out 1).trans rfl; have hfz12_0 := blk_frozen BK245.out 0; have hfz12_1 := blk_frozen BK245.out 1) | ((with_reducible refine gate_callee (f := 120) rfl ?_); refine XPrint.gl (some 12) Try.func120 #[.agg #[.int .i64 1, .int .i64 1], .agg #[.int .i64 a1_0, .int .i64 a1_1]] ?_; (with_reducible refine (vec_LE.calls 1 1 a1_0 a1_1 true _ A3.out).mono ?_); rintro e w13 ⟨rfl, hb⟩; refine ⟨_, rfl, ?_⟩; replace BK244 := XPrint.A0 (XPrint.ab BK244.out hb); replace BK245 := XPrint.A0 (XPrint.ab BK245.out hb); replace HB := XPrint.A0 (below_step (by exact XPrint.bz HB.out) hb); (try clear hb); (try clear hb2); (try clear hk); (try clear hi); have hcz14_0 : w13.cell? ⟨gb244, 0, none⟩ = some (.int .i64 a0_0) := (blk_cell BK244.out 0).trans rfl; have hcz14_1 : w13.cell? ⟨gb244, 1, none⟩ = some (.int .i64 a0_1) := (blk_cell BK244.out 1).trans rfl; have hfz14_0 := blk_frozen BK244.out 0; have hfz14_1 := blk_frozen BK244.out 1; have hcz15_0 : w13.cell? ⟨gb245, 0, none⟩ = some (.int .i64 a1_0) := (blk_cell BK245.out 0).trans rfl; have hcz15_1 : w13.cell? ⟨gb245, 1, none⟩ = some (.int .i64 a1_1) := (blk_cell BK245.out 1).trans rfl; have hfz15_0 := blk_frozen BK245.out 0; have hfz15_1 := blk_frozen BK245.out 1) | ((with_reducible refine gate_dst (N := 17) rfl ?_); refine Kd.R_lit k23 _ 23 ?hg (N := 17) ?hd (xs := ([(⟨a0_0, a0_1⟩ : S23), (⟨a1_0, a1_1⟩ : S23)] : List (S23))) (inner := [.int .i64 a0_0, .int .i64 a0_1, .int .i64 a1_0, .int .i64 a1_1]) (ok := fun _ => True) (okp := fun _ => True) ?hr ?hp (fun _ hk => hk) trivial (Below.refl _ _) (Nat.le_refl _) (by simp) ?_; (case hd => rfl); (case hg => rfl); (case hr => first | (go_simp; done) | (go_simp; rfl)); (case hp => exact (Reps.c2 (show Kd.M k23 _ _ _ (⟨a0_0, a0_1⟩ : S23) [.int .i64 a0_0, .int .i64 a0_1] from (k23_mkM _ _ _ (⟨a0_0, a0_1⟩ : S23) )) (Reps.c2 (show Kd.M k23 _ _ _ (⟨a1_0, a1_1⟩ : S23) [.int .i64 a1_0, .int .i64 a1_1] from (k23_mkM _ _ _ (⟨a1_0, a1_1⟩ : S23) )) (Reps.none _ _)))); intro v248 w16 ho17 hb hg_ hnew_; clear hg_ hnew_; (first | rw [← Ny247.out] at ho17 | (simp only [Int.reduceToNat] at ho17; rw [← Ny247.out] at ho17)); have HO249 := XPrint.A0 (Kd.R_lower (Kd.R_newB (Kd.R_newB ho17 (g := gb244) (o := .cells #[.int .i64 a0_0, .int .i64 a0_1] 23 (0, 0)) (XPrint.ak BK244.out)) (g := gb245) (o := .cells #[.int .i64 a1_0, .int .i64 a1_1] 23 (0, 0)) (XPrint.ak BK245.out)) (below_size (by exact XPrint.bz HB.out))); replace BK244 := XPrint.A0 (XPrint.ab BK244.out hb); replace BK245 := XPrint.A0 (XPrint.ab BK245.out hb); replace HB := XPrint.A0 (below_step (by exact XPrint.bz HB.out) hb); clear hb ho17; obtain ⟨Ao18, co18, eo18⟩ := Kd.R_slice HO249.out; subst eo18) | ((with_reducible refine gate_callee (f := 156) rfl ?_); refine XPrint.gl (some 18) Try.func156 #[.slice Ao18 y247.length co18] ?_; (with_reducible refine (vec_told.calls k _ _ y247 t250 t251 t252 _ ?side1 ?side2 A5.out).mono ?_); (case side1 => repeat (first | exact (Kd.R_reads' HO249.out).2.2 | (with_reducible refine Kd.C_alloc ?_ _) | (with_reducible refine Kd.C_drewN ?_ _) | (with_reducible refine Kd.C_drew ?_))); (case side2 => exact (Kd.R_reads' HO249.out).2.1); rintro e w19 ⟨rfl, hb⟩; refine ⟨_, rfl, ?_⟩; replace HO249 := XPrint.A0 (XPrint.rb HO249.out hb); replace BK244 := XPrint.A0 (XPrint.ab BK244.out hb); replace BK245 := XPrint.A0 (XPrint.ab BK245.out hb); replace HB := XPrint.A0 (below_step (by exact XPrint.bz HB.out) hb); (try clear hb); (try clear hb2); (try clear hk); (try clear hi)) | ((with_reducible refine gate_dst (N := 6) rfl ?_); refine box_event ?hg (N := 6) ?hd (cs := #[.int .i64 0, .int .i64 0]) (t := 23) ?hr ?_; (case hd => rfl); (case hg => rfl); (case hr => first | (go_simp; done) | (go_simp; rfl)); intro gb253 hg w20 hbox hb; have BK253 := XPrint.A0 (hbox); have GW253 := XPrint.A0 (XPrint.gz HB.out hg); have GE253 := XPrint.A0 (XPrint.gz HB.out hg); have NB244_253 := XPrint.A1 (by rw [hg]; exact Nat.ne_of_lt (XPrint.al BK244.out) : gb244 ≠ gb253); have NB253_244 := XPrint.A1 (by rw [hg]; exact Nat.ne_of_gt (XPrint.al BK244.out) : gb253 ≠ gb244); have NB245_253 := XPrint.A1 (by rw [hg]; exact Nat.ne_of_lt (XPrint.al BK245.out) : gb245 ≠ gb253); have NB253_245 := XPrint.A1 (by rw [hg]; exact Nat.ne_of_gt (XPrint.al BK245.out) : gb253 ≠ gb245); replace HO249 := XPrint.A0 (Kd.R_below (Kd.R_elderB (by (with_reducible repeat (first | apply Kd.R_alloc | apply Kd.R_drewN | apply Kd.R_drew)); exact HO249.out) gb253 (Nat.le_of_eq hg.symm)) hb); replace BK244 := XPrint.A0 (XPrint.ab BK244.out hb); replace BK245 := XPrint.A0 (XPrint.ab BK245.out hb); replace HB := XPrint.A0 (below_step (by exact XPrint.bz HB.out) hb); clear hb hbox hg; have hnb21 := NB253_244.out; have hnc21 := NB244_253.out; have hnb22 := NB253_245.out; have hnc22 := NB245_253.out; have hcz23_0 : w20.cell? ⟨gb253, 0, none⟩ = some (.int .i64 0) := (blk_cell BK253.out 0).trans rfl; have hcz23_1 : w20.cell? ⟨gb253, 1, none⟩ = some (.int .i64 0) := (blk_cell BK253.out 1).trans rfl; have hfz23_0 := blk_frozen BK253.out 0; have hfz23_1 := blk_frozen BK253.out 1; have hcz24_0 : w20.cell? ⟨gb244, 0, none⟩ = some (.int .i64 a0_0) := (blk_cell BK244.out 0).trans rfl; have hcz24_1 : w20.cell? ⟨gb244, 1, none⟩ = some (.int .i64 a0_1) := (blk_cell BK244.out 1).trans rfl; have hfz24_0 := blk_frozen BK244.out 0; have hfz24_1 := blk_frozen BK244.out 1; have hcz25_0 : w20.cell? ⟨gb245, 0, none⟩ = some (.int .i64 a1_0) := (blk_cell BK245.out 0).trans rfl; have hcz25_1 : w20.cell? ⟨gb245, 1, none⟩ = some (.int .i64 a1_1) := (blk_cell BK245.out 1).trans rfl; have hfz25_0 := blk_frozen BK245.out 0; have hfz25_1 := blk_frozen BK245.out 1) | ((with_reducible refine gate_callee (f := 157) rfl ?_); refine XPrint.gl (some 27) Try.func157 #[.agg #[.int .i64 a0_0, .int .i64 a0_1], .agg #[.int .i64 a1_0, .int .i64 a1_1], (.func (.func 158) #[] #[])] ?_; (with_reducible refine (vec_both_int64_at_vec_Units_1.calls a0_0 a0_1 a1_0 a1_1  t254 t255 _ A7.out).mono ?_); rintro e w26 ⟨rfl, hb⟩; refine ⟨_, rfl, ?_⟩; replace HO249 := XPrint.A0 (Kd.R_below (by (with_reducible repeat (first | apply Kd.R_alloc | apply Kd.R_drewN | apply Kd.R_drew)); exact (Kd.R_mono (Kd.R_far (p := ⟨gb253, 1, none⟩) (Kd.R_far (p := ⟨gb253, 0, none⟩) (Kd.R_mono HO249.out (fun k_ hk => (⟨hk, hk.2⟩ : _ ∧ k_ ≠ gb253))) (fun _ hk => hk.2) (.int .i64 t250)) (fun _ hk => hk.2) (.int .i64 t251)) (fun _ h_ => by first | exact h_.1 | (simp only [XPrint.own_slice] at h_ ⊢; exact h_.1)))) hb); replace BK244 := XPrint.A0 (XPrint.ab BK244.out hb); replace BK245 := XPrint.A0 (XPrint.ab BK245.out hb); replace BK253 := XPrint.A0 (blk_below (g := gb253) (o := .cells #[.int .i64 t250, .int .i64 t251] 23 (0, 0)) (by (repeat with_reducible first | refine XPrint.d1 ?_ | refine XPrint.d2 ?_ _ | refine XPrint.d3 ?_ _); refine blk_put (cs := #[.int .i64 t250, .int .i64 0]) ?_ 1 _ rfl; (repeat with_reducible first | refine XPrint.d1 ?_ | refine XPrint.d2 ?_ _ | refine XPrint.d3 ?_ _); refine blk_put (cs := #[.int .i64 0, .int .i64 0]) ?_ 0 _ rfl; (repeat with_reducible first | refine XPrint.d1 ?_ | refine XPrint.d2 ?_ _ | refine XPrint.d3 ?_ _); exact BK253.out) hb); replace HB := XPrint.A0 (below_step (by repeat (first | (with_reducible first | exact HB.out | apply below_alloc | apply pw_below_drewN | apply below_drew1 | refine below_set ?_ GE244.out | refine below_set ?_ GE245.out | refine below_set ?_ GE253.out) | exact HB.out)) hb); (try clear hb); (try clear hb2); (try clear hk); (try clear hi)))
   go_ret2
   exact ⟨by first | rfl | (simp [errW_none, errW_some] <;> rfl) | (simp only [← hji8]; first | rfl | (simp [errW_none, errW_some] <;> rfl)) | (simp [*, errW_none, errW_some] <;> rfl), by exact XPrint.bz HB.out⟩
  ·rw [if_neg c6] at H
   have c6b0 : (t252 == 0) = false := beq_eq_false_iff_ne.mpr c6
   have c6b1 : (t252 != 0) = true := bne_iff_ne.mpr c6
   simp only [Option.some.injEq, Prod.mk.injEq] at H
   obtain ⟨rfl, rfl⟩ := H
   go_enter Try.func123, Try.ntmps123
   go_wp2_with (first | ((with_reducible refine gate_dst (N := 2) rfl ?_); refine box_event ?hg (N := 2) ?hd (cs := #[.int .i64 a0_0, .int .i64 a0_1]) (t := 23) ?hr ?_; (case hd => rfl); (case hg => rfl); (case hr => first | (go_simp; done) | (go_simp; rfl)); intro gb244 hg w27 hbox hb; have BK244 := XPrint.A0 (hbox); have GW244 := XPrint.A0 (XPrint.gz HB.out hg); have GE244 := XPrint.A0 (XPrint.gz HB.out hg); replace HB := XPrint.A0 (below_step (by exact XPrint.bz HB.out) hb); clear hb hbox hg) | ((with_reducible refine gate_dst (N := 3) rfl ?_); refine box_event ?hg (N := 3) ?hd (cs := #[.int .i64 a1_0, .int .i64 a1_1]) (t := 23) ?hr ?_; (case hd => rfl); (case hg => rfl); (case hr => first | (go_simp; done) | (go_simp; rfl)); intro gb245 hg w28 hbox hb; have BK245 := XPrint.A0 (hbox); have GW245 := XPrint.A0 (XPrint.gz HB.out hg); have GE245 := XPrint.A0 (XPrint.gz HB.out hg); have NB244_245 := XPrint.A1 (by rw [hg]; exact Nat.ne_of_lt (XPrint.al BK244.out) : gb244 ≠ gb245); have NB245_244 := XPrint.A1 (by rw [hg]; exact Nat.ne_of_gt (XPrint.al BK244.out) : gb245 ≠ gb244); replace BK244 := XPrint.A0 (XPrint.ab BK244.out hb); replace HB := XPrint.A0 (below_step (by exact XPrint.bz HB.out) hb); clear hb hbox hg; have hnb29 := NB245_244.out; have hnc29 := NB244_245.out; have hcz30_0 : w28.cell? ⟨gb245, 0, none⟩ = some (.int .i64 a1_0) := (blk_cell BK245.out 0).trans rfl; have hcz30_1 : w28.cell? ⟨gb245, 1, none⟩ = some (.int .i64 a1_1) := (blk_cell BK245.out 1).trans rfl; have hfz30_0 := blk_frozen BK245.out 0; have hfz30_1 := blk_frozen BK245.out 1) | ((with_reducible refine gate_callee (f := 120) rfl ?_); refine XPrint.gl (some 12) Try.func120 #[.agg #[.int .i64 1, .int .i64 1], .agg #[.int .i64 a1_0, .int .i64 a1_1]] ?_; (with_reducible refine (vec_LE.calls 1 1 a1_0 a1_1 true _ A3.out).mono ?_); rintro e w31 ⟨rfl, hb⟩; refine ⟨_, rfl, ?_⟩; replace BK244 := XPrint.A0 (XPrint.ab BK244.out hb); replace BK245 := XPrint.A0 (XPrint.ab BK245.out hb); replace HB := XPrint.A0 (below_step (by exact XPrint.bz HB.out) hb); (try clear hb); (try clear hb2); (try clear hk); (try clear hi); have hcz32_0 : w31.cell? ⟨gb244, 0, none⟩ = some (.int .i64 a0_0) := (blk_cell BK244.out 0).trans rfl; have hcz32_1 : w31.cell? ⟨gb244, 1, none⟩ = some (.int .i64 a0_1) := (blk_cell BK244.out 1).trans rfl; have hfz32_0 := blk_frozen BK244.out 0; have hfz32_1 := blk_frozen BK244.out 1; have hcz33_0 : w31.cell? ⟨gb245, 0, none⟩ = some (.int .i64 a1_0) := (blk_cell BK245.out 0).trans rfl; have hcz33_1 : w31.cell? ⟨gb245, 1, none⟩ = some (.int .i64 a1_1) := (blk_cell BK245.out 1).trans rfl; have hfz33_0 := blk_frozen BK245.out 0; have hfz33_1 := blk_frozen BK245.out 1) | ((with_reducible refine gate_dst (N := 17) rfl ?_); refine Kd.R_lit k23 _ 23 ?hg (N := 17) ?hd (xs := ([(⟨a0_0, a0_1⟩ : S23), (⟨a1_0, a1_1⟩ : S23)] : List (S23))) (inner := [.int .i64 a0_0, .int .i64 a0_1, .int .i64 a1_0, .int .i64 a1_1]) (ok := fun _ => True) (okp := fun _ => True) ?hr ?hp (fun _ hk => hk) trivial (Below.refl _ _) (Nat.le_refl _) (by simp) ?_; (case hd => rfl); (case hg => rfl); (case hr => first | (go_simp; done) | (go_simp; rfl)); (case hp => exact (Reps.c2 (show Kd.M k23 _ _ _ (⟨a0_0, a0_1⟩ : S23) [.int .i64 a0_0, .int .i64 a0_1] from (k23_mkM _ _ _ (⟨a0_0, a0_1⟩ : S23) )) (Reps.c2 (show Kd.M k23 _ _ _ (⟨a1_0, a1_1⟩ : S23) [.int .i64 a1_0, .int .i64 a1_1] from (k23_mkM _ _ _ (⟨a1_0, a1_1⟩ : S23) )) (Reps.none _ _)))); intro v248 w34 ho35 hb hg_ hnew_; clear hg_ hnew_; (first | rw [← Ny247.out] at ho35 | (simp only [Int.reduceToNat] at ho35; rw [← Ny247.out] at ho35)); have HO249 := XPrint.A0 (Kd.R_lower (Kd.R_newB (Kd.R_newB ho35 (g := gb244) (o := .cells #[.int .i64 a0_0, .int .i64 a0_1] 23 (0, 0)) (XPrint.ak BK244.out)) (g := gb245) (o := .cells #[.int .i64 a1_0, .int .i64 a1_1] 23 (0, 0)) (XPrint.ak BK245.out)) (below_size (by exact XPrint.bz HB.out))); replace BK244 := XPrint.A0 (XPrint.ab BK244.out hb); replace BK245 := XPrint.A0 (XPrint.ab BK245.out hb); replace HB := XPrint.A0 (below_step (by exact XPrint.bz HB.out) hb); clear hb ho35; obtain ⟨Ao36, co36, eo36⟩ := Kd.R_slice HO249.out; subst eo36) | ((with_reducible refine gate_callee (f := 156) rfl ?_); refine XPrint.gl (some 18) Try.func156 #[.slice Ao36 y247.length co36] ?_; (with_reducible refine (vec_told.calls k _ _ y247 t250 t251 t252 _ ?side1 ?side2 A5.out).mono ?_); (case side1 => repeat (first | exact (Kd.R_reads' HO249.out).2.2 | (with_reducible refine Kd.C_alloc ?_ _) | (with_reducible refine Kd.C_drewN ?_ _) | (with_reducible refine Kd.C_drew ?_))); (case side2 => exact (Kd.R_reads' HO249.out).2.1); rintro e w37 ⟨rfl, hb⟩; refine ⟨_, rfl, ?_⟩; replace HO249 := XPrint.A0 (XPrint.rb HO249.out hb); replace BK244 := XPrint.A0 (XPrint.ab BK244.out hb); replace BK245 := XPrint.A0 (XPrint.ab BK245.out hb); replace HB := XPrint.A0 (below_step (by exact XPrint.bz HB.out) hb); (try clear hb); (try clear hb2); (try clear hk); (try clear hi)) | ((with_reducible refine gate_dst (N := 6) rfl ?_); refine box_event ?hg (N := 6) ?hd (cs := #[.int .i64 0, .int .i64 0]) (t := 23) ?hr ?_; (case hd => rfl); (case hg => rfl); (case hr => first | (go_simp; done) | (go_simp; rfl)); intro gb253 hg w38 hbox hb; have BK253 := XPrint.A0 (hbox); have GW253 := XPrint.A0 (XPrint.gz HB.out hg); have GE253 := XPrint.A0 (XPrint.gz HB.out hg); have NB244_253 := XPrint.A1 (by rw [hg]; exact Nat.ne_of_lt (XPrint.al BK244.out) : gb244 ≠ gb253); have NB253_244 := XPrint.A1 (by rw [hg]; exact Nat.ne_of_gt (XPrint.al BK244.out) : gb253 ≠ gb244); have NB245_253 := XPrint.A1 (by rw [hg]; exact Nat.ne_of_lt (XPrint.al BK245.out) : gb245 ≠ gb253); have NB253_245 := XPrint.A1 (by rw [hg]; exact Nat.ne_of_gt (XPrint.al BK245.out) : gb253 ≠ gb245); replace HO249 := XPrint.A0 (Kd.R_below (Kd.R_elderB (by (with_reducible repeat (first | apply Kd.R_alloc | apply Kd.R_drewN | apply Kd.R_drew)); exact HO249.out) gb253 (Nat.le_of_eq hg.symm)) hb); replace BK244 := XPrint.A0 (XPrint.ab BK244.out hb); replace BK245 := XPrint.A0 (XPrint.ab BK245.out hb); replace HB := XPrint.A0 (below_step (by exact XPrint.bz HB.out) hb); clear hb hbox hg; have hnb39 := NB253_244.out; have hnc39 := NB244_253.out; have hnb40 := NB253_245.out; have hnc40 := NB245_253.out; have hcz41_0 : w38.cell? ⟨gb253, 0, none⟩ = some (.int .i64 0) := (blk_cell BK253.out 0).trans rfl; have hcz41_1 : w38.cell? ⟨gb253, 1, none⟩ = some (.int .i64 0) := (blk_cell BK253.out 1).trans rfl; have hfz41_0 := blk_frozen BK253.out 0; have hfz41_1 := blk_frozen BK253.out 1))
   go_ret2
   exact ⟨by first | rfl | (simp [errW_none, errW_some] <;> rfl) | (simp [*, errW_none, errW_some] <;> rfl), by repeat (first | (with_reducible first | exact HB.out | apply below_alloc | apply pw_below_drewN | apply below_drew1 | refine below_set ?_ GE244.out | refine below_set ?_ GE245.out | refine below_set ?_ GE253.out) | exact HB.out)⟩
 ·replace c4 := Bool.eq_false_iff.mpr c4
  subst c4
  have H1 := H; rw [if_neg (show ¬ (false = true) by decide)] at H1
  clear H
  have H := H1
  clear H1
  simp only [Option.some.injEq, Prod.mk.injEq] at H
  obtain ⟨rfl, rfl⟩ := H
  go_enter Try.func123, Try.ntmps123
  go_wp2_with (first | ((with_reducible refine gate_dst (N := 2) rfl ?_); refine box_event ?hg (N := 2) ?hd (cs := #[.int .i64 a0_0, .int .i64 a0_1]) (t := 23) ?hr ?_; (case hd => rfl); (case hg => rfl); (case hr => first | (go_simp; done) | (go_simp; rfl)); intro gb244 hg w42 hbox hb; have BK244 := XPrint.A0 (hbox); have GW244 := XPrint.A0 (XPrint.gz HB.out hg); have GE244 := XPrint.A0 (XPrint.gz HB.out hg); replace HB := XPrint.A0 (below_step (by exact XPrint.bz HB.out) hb); clear hb hbox hg) | ((with_reducible refine gate_dst (N := 3) rfl ?_); refine box_event ?hg (N := 3) ?hd (cs := #[.int .i64 a1_0, .int .i64 a1_1]) (t := 23) ?hr ?_; (case hd => rfl); (case hg => rfl); (case hr => first | (go_simp; done) | (go_simp; rfl)); intro gb245 hg w43 hbox hb; have BK245 := XPrint.A0 (hbox); have GW245 := XPrint.A0 (XPrint.gz HB.out hg); have GE245 := XPrint.A0 (XPrint.gz HB.out hg); have NB244_245 := XPrint.A1 (by rw [hg]; exact Nat.ne_of_lt (XPrint.al BK244.out) : gb244 ≠ gb245); have NB245_244 := XPrint.A1 (by rw [hg]; exact Nat.ne_of_gt (XPrint.al BK244.out) : gb245 ≠ gb244); replace BK244 := XPrint.A0 (XPrint.ab BK244.out hb); replace HB := XPrint.A0 (below_step (by exact XPrint.bz HB.out) hb); clear hb hbox hg; have hnb44 := NB245_244.out; have hnc44 := NB244_245.out; have hcz45_0 : w43.cell? ⟨gb245, 0, none⟩ = some (.int .i64 a1_0) := (blk_cell BK245.out 0).trans rfl; have hcz45_1 : w43.cell? ⟨gb245, 1, none⟩ = some (.int .i64 a1_1) := (blk_cell BK245.out 1).trans rfl; have hfz45_0 := blk_frozen BK245.out 0; have hfz45_1 := blk_frozen BK245.out 1) | ((with_reducible refine gate_callee (f := 120) rfl ?_); refine XPrint.gl (some 12) Try.func120 #[.agg #[.int .i64 1, .int .i64 1], .agg #[.int .i64 a1_0, .int .i64 a1_1]] ?_; (with_reducible refine (vec_LE.calls 1 1 a1_0 a1_1 false _ A3.out).mono ?_); rintro e w46 ⟨rfl, hb⟩; refine ⟨_, rfl, ?_⟩; replace BK244 := XPrint.A0 (XPrint.ab BK244.out hb); replace BK245 := XPrint.A0 (XPrint.ab BK245.out hb); replace HB := XPrint.A0 (below_step (by exact XPrint.bz HB.out) hb); (try clear hb); (try clear hb2); (try clear hk); (try clear hi)))
  go_ret2
  exact ⟨by first | rfl | (simp [errW_none, errW_some] <;> rfl) | (simp [*, errW_none, errW_some] <;> rfl), by exact XPrint.bz HB.out⟩

-- NOT PRINTED: function 73 (node_Table_bears)

-- NOT PRINTED: function 24 (node_Table_Units)

-- NOT PRINTED: function 80 (node_Table_sum)

-- NOT PRINTED: function 28 (node_Table_Total)

/-! ### node_in: function 64 -/
def node_in.f (a0_0 : Int) (a0_1 : Int) (a1 : Int) : Option (Bool) := (vec_LE.f a1 a1 a0_0 a0_1).bind fun t257 => (if t257 = true then ((vec_LE.f a0_0 a0_1 1073741824 1073741824).bind fun t258 => (some t258)) else (some false))
set_option maxHeartbeats 8000000 in
set_option maxRecDepth 100000 in
theorem node_in.calls (a0_0 : Int) (a0_1 : Int) (a1 : Int) (r : Bool) (w : World) (h : node_in.f a0_0 a0_1 a1 = some r) :
  Calls Try.prog 64 #[.agg #[.int .i64 a0_0, .int .i64 a0_1], .int .i64 a1] w fun e w' => e = .returned (.bool r) ∧ Below w.heap.size w w' := by
 have hu23 := Try.underlying23
 have HB := XPrint.A0 (Below.refl w.heap.size w)
 have H : ((vec_LE.f a1 a1 a0_0 a0_1).bind fun t257 => (if t257 = true then ((vec_LE.f a0_0 a0_1 1073741824 1073741824).bind fun t258 => (some t258)) else (some false))) = some r := h
 clear h
 replace H := Option.bind_eq_some_iff.mp H
 obtain ⟨t257, A30, H⟩ := H
 try set_option simprocs false in dsimp only at H
 have A3 := XPrint.A0 A30
 clear A30
 by_cases c4 : t257 = true
 ·subst c4
  have H1 := H; rw [if_pos rfl] at H1
  clear H
  have H := H1
  clear H1
  replace H := Option.bind_eq_some_iff.mp H
  obtain ⟨t258, A50, H⟩ := H
  try set_option simprocs false in dsimp only at H
  have A5 := XPrint.A0 A50
  clear A50
  obtain rfl := Option.some.inj H
  go_enter Try.func64, Try.ntmps64
  go_wp2_with (first | ((with_reducible refine gate_dst (N := 2) rfl ?_); refine box_event ?hg (N := 2) ?hd (cs := #[.int .i64 a0_0, .int .i64 a0_1]) (t := 23) ?hr ?_; (case hd => rfl); (case hg => rfl); (case hr => first | (go_simp; done) | (go_simp; rfl)); intro gb256 hg w6 hbox hb; have BK256 := XPrint.A0 (hbox); have GW256 := XPrint.A0 (XPrint.gz HB.out hg); have GE256 := XPrint.A0 (XPrint.gz HB.out hg); replace HB := XPrint.A0 (below_step (by exact XPrint.bz HB.out) hb); clear hb hbox hg; have hcz7_0 : w6.cell? ⟨gb256, 0, none⟩ = some (.int .i64 a0_0) := (blk_cell BK256.out 0).trans rfl; have hcz7_1 : w6.cell? ⟨gb256, 1, none⟩ = some (.int .i64 a0_1) := (blk_cell BK256.out 1).trans rfl; have hfz7_0 := blk_frozen BK256.out 0; have hfz7_1 := blk_frozen BK256.out 1) | ((with_reducible refine gate_callee (f := 120) rfl ?_); refine XPrint.gl (some 9) Try.func120 #[.agg #[.int .i64 a1, .int .i64 a1], .agg #[.int .i64 a0_0, .int .i64 a0_1]] ?_; (with_reducible refine (vec_LE.calls a1 a1 a0_0 a0_1 true _ A3.out).mono ?_); rintro e w8 ⟨rfl, hb⟩; refine ⟨_, rfl, ?_⟩; replace BK256 := XPrint.A0 (XPrint.ab BK256.out hb); replace HB := XPrint.A0 (below_step (by exact XPrint.bz HB.out) hb); (try clear hb); (try clear hb2); (try clear hk); (try clear hi); have hcz9_0 : w8.cell? ⟨gb256, 0, none⟩ = some (.int .i64 a0_0) := (blk_cell BK256.out 0).trans rfl; have hcz9_1 : w8.cell? ⟨gb256, 1, none⟩ = some (.int .i64 a0_1) := (blk_cell BK256.out 1).trans rfl; have hfz9_0 := blk_frozen BK256.out 0; have hfz9_1 := blk_frozen BK256.out 1) | (go_at_call 120; (with_reducible refine (vec_LE.calls a0_0 a0_1 1073741824 1073741824 t258 _ A5.out).mono ?_); rintro e w10 ⟨rfl, hb⟩; replace BK256 := XPrint.A0 (XPrint.ab BK256.out hb); replace HB := XPrint.A0 (below_step (by exact XPrint.bz HB.out) hb); (try clear hb); (try clear hb2); (try clear hk); (try clear hi)))
  go_ret
  exact ⟨by first | rfl | (simp [errW_none, errW_some] <;> rfl) | (simp [*, errW_none, errW_some] <;> rfl), by exact XPrint.bz HB.out⟩
 ·replace c4 := Bool.eq_false_iff.mpr c4
  subst c4
  have H1 := H; rw [if_neg (show ¬ (false = true) by decide)] at H1
  clear H
  have H := H1
  clear H1
  obtain rfl := Option.some.inj H
  go_enter Try.func64, Try.ntmps64
  go_wp2_with (first | ((with_reducible refine gate_dst (N := 2) rfl ?_); refine box_event ?hg (N := 2) ?hd (cs := #[.int .i64 a0_0, .int .i64 a0_1]) (t := 23) ?hr ?_; (case hd => rfl); (case hg => rfl); (case hr => first | (go_simp; done) | (go_simp; rfl)); intro gb256 hg w11 hbox hb; have BK256 := XPrint.A0 (hbox); have GW256 := XPrint.A0 (XPrint.gz HB.out hg); have GE256 := XPrint.A0 (XPrint.gz HB.out hg); replace HB := XPrint.A0 (below_step (by exact XPrint.bz HB.out) hb); clear hb hbox hg; have hcz12_0 : w11.cell? ⟨gb256, 0, none⟩ = some (.int .i64 a0_0) := (blk_cell BK256.out 0).trans rfl; have hcz12_1 : w11.cell? ⟨gb256, 1, none⟩ = some (.int .i64 a0_1) := (blk_cell BK256.out 1).trans rfl; have hfz12_0 := blk_frozen BK256.out 0; have hfz12_1 := blk_frozen BK256.out 1) | ((with_reducible refine gate_callee (f := 120) rfl ?_); refine XPrint.gl (some 9) Try.func120 #[.agg #[.int .i64 a1, .int .i64 a1], .agg #[.int .i64 a0_0, .int .i64 a0_1]] ?_; (with_reducible refine (vec_LE.calls a1 a1 a0_0 a0_1 false _ A3.out).mono ?_); rintro e w13 ⟨rfl, hb⟩; refine ⟨_, rfl, ?_⟩; replace BK256 := XPrint.A0 (XPrint.ab BK256.out hb); replace HB := XPrint.A0 (below_step (by exact XPrint.bz HB.out) hb); (try clear hb); (try clear hb2); (try clear hk); (try clear hi)))
  go_ret
  exact ⟨by first | rfl | (simp [errW_none, errW_some] <;> rfl) | (simp [*, errW_none, errW_some] <;> rfl), by exact XPrint.bz HB.out⟩

-- NOT PRINTED: function 15 (node_New)

-- NOT PRINTED: function 48 (ledger_New)

/-! ### liverylaw23_great: function 49 -/
def liverylaw23_great.l0 : Nat → List (S107) → Int → Option (Bool)
 | 0, _, _ => none
 | k + 1, x0, x3 => if x3 < (x0.length : Int) then (if 0 ≤ x3 then (if ((rd_T107 x0 x3).f4) > 200 then (if ((rd_T107 x0 x3).f4) ≤ 1048576 then (some true) else (liverylaw23_great.l0 k x0 (wrap64 (x3 + 1)))) else (liverylaw23_great.l0 k x0 (wrap64 (x3 + 1)))) else (none)) else (some (decide ((x0.length : Int) > 80)))
def liverylaw23_great.f (k : Nat) (l0 : List (S107)) : Option (Bool) := liverylaw23_great.l0 k l0 0
theorem liverylaw23_great.mono_l : ∀ k, (∀ y0 y1, LeO (liverylaw23_great.l0 k y0 y1) (liverylaw23_great.l0 (k + 1) y0 y1))
 | 0 => fun _ _ r h => by simp [liverylaw23_great.l0] at h
 | k + 1 => by
  have ih0 := liverylaw23_great.mono_l k
  ·intro y0 y1
   unfold liverylaw23_great.l0
   repeat' first
   | (with_reducible exact ih0 _ _)
   | (with_reducible exact LeO.refl _)
   | (with_reducible exact LeO.none _)
   | (with_reducible refine LeO.ite ?_ ?_)
   | (with_reducible refine LeO.bind ?_ (fun _ => ?_))
   | exact ih0 _ _
   | exact LeO.none _
   | refine LeO.ite ?_ ?_
   | refine LeO.bind ?_ (fun _ => ?_)
theorem liverylaw23_great.mono : ∀ a0 k, LeO (liverylaw23_great.f k a0) (liverylaw23_great.f (k + 1) a0) := by
 intro a0 k
 have ih0 := liverylaw23_great.mono_l k
 unfold liverylaw23_great.f
 repeat' first
   | (with_reducible exact ih0 _ _)
   | (with_reducible exact LeO.refl _)
   | (with_reducible exact LeO.none _)
   | (with_reducible refine LeO.ite ?_ ?_)
   | (with_reducible refine LeO.bind ?_ (fun _ => ?_))
   | exact ih0 _ _
   | exact LeO.none _
   | refine LeO.ite ?_ ?_
   | refine LeO.bind ?_ (fun _ => ?_)
set_option maxHeartbeats 8000000 in
set_option maxRecDepth 100000 in
theorem liverylaw23_great.calls (k : Nat) (A0 : Option Addr) (c0 : Nat) (l0 : List (S107)) (r : Bool) (w : World) (hr0 : Kd.C k107 w A0 l0.length l0) (hc0 : l0.length ≤ c0) (h : liverylaw23_great.f k l0 = some r) :
  Calls Try.prog 49 #[.slice A0 l0.length c0] w fun e w' => e = .returned (.bool r) ∧ Drawn0 w w' := by
 have HR0 := XPrint.A0 hr0
 have HC0 := XPrint.A0 hc0
 clear hr0 hc0
 have H : (liverylaw23_great.l0 k l0 0) = some r := h
 clear h
 have H' := XPrint.A0 H
 clear H
 go_enter Try.func49, Try.ntmps49
 go_wp2
 go_loopg [3] k (fun kq v3 w' => ∃ (x3_1 : Int), v3 = .int .i64 x3_1 ∧ Aside0 (liverylaw23_great.l0 kq l0 x3_1 = some r) ∧ Aside0 (kq ≤ k) ∧ Drawn0 w w')
 case atStart => exact ⟨(0), (by first | rfl | (simp; done) | (simp [*]; done)), H', ⟨Nat.le_refl _⟩, by repeat (first | exact Drawn0.refl _ | apply Drawn0.step)⟩
 case round =>
  clear H'
  obtain ⟨x3_1, rfl, HA, HK1, ⟨m1, rfl⟩⟩ := hrel
  cases gk with
  | zero => exact absurd HA.out (by simp [liverylaw23_great.l0])
  | succ k1 =>
   have H := HA.out
   clear HA
   simp only [liverylaw23_great.l0] at H
   by_cases c2 : x3_1 < (l0.length : Int)
   ·rw [if_pos c2] at H
    have c2b0 : decide (x3_1 < (l0.length : Int)) = true := decide_eq_true c2
    clear c2
    by_cases c3 : 0 ≤ x3_1
    ·rw [if_pos c3] at H
     have c3b0 : decide (0 ≤ x3_1) = true := decide_eq_true c3
     clear c3
     by_cases c4 : ((rd_T107 l0 x3_1).f4) > 200
     ·rw [if_pos c4] at H
      have c4b0 : decide (200 < ((rd_T107 l0 x3_1).f4)) = true := decide_eq_true c4
      clear c4
      by_cases c5 : ((rd_T107 l0 x3_1).f4) ≤ 1048576
      ·rw [if_pos c5] at H
       have c5b0 : decide (((rd_T107 l0 x3_1).f4) ≤ 1048576) = true := decide_eq_true c5
       clear c5
       obtain rfl := Option.some.inj H
       have p259 : 0 ≤ (x3_1 : Int) := of_decide_eq_true (by first | (with_reducible assumption) | assumption)
       have q259 : x3_1 < (l0.length : Int) := of_decide_eq_true (by first | (with_reducible assumption) | assumption)
       obtain ⟨ad259, e259, hx259_0, hx259_1, hx259_2, hx259_3, hx259_4, hx259_5, hx259_6⟩ := at_T107 HR0.out x3_1 p259 q259
       cases e259
       replace p259 := eq_true p259
       replace q259 := eq_true q259
       have p260 : 0 ≤ (x3_1 : Int) := of_decide_eq_true (by first | (with_reducible assumption) | assumption)
       have q260 : x3_1 < (l0.length : Int) := of_decide_eq_true (by first | (with_reducible assumption) | assumption)
       obtain ⟨ad260, e260, hx260_0, hx260_1, hx260_2, hx260_3, hx260_4, hx260_5, hx260_6⟩ := at_T107 HR0.out x3_1 p260 q260
       obtain rfl : ad259 = ad260 := (by injection e260)
       replace p260 := eq_true p260
       replace q260 := eq_true q260
       go_wp2
       go_ret
       exact ⟨by first | rfl | (simp; done) | (simp [*]; done), by repeat (first | exact Drawn0.refl _ | apply Drawn0.step)⟩
      ·rw [if_neg c5] at H
       have c5b0 : decide (((rd_T107 l0 x3_1).f4) ≤ 1048576) = false := decide_eq_false c5
       clear c5
       have H' := XPrint.A0 H
       clear H
       have p259 : 0 ≤ (x3_1 : Int) := of_decide_eq_true (by first | (with_reducible assumption) | assumption)
       have q259 : x3_1 < (l0.length : Int) := of_decide_eq_true (by first | (with_reducible assumption) | assumption)
       obtain ⟨ad259, e259, hx259_0, hx259_1, hx259_2, hx259_3, hx259_4, hx259_5, hx259_6⟩ := at_T107 HR0.out x3_1 p259 q259
       cases e259
       replace p259 := eq_true p259
       replace q259 := eq_true q259
       have p260 : 0 ≤ (x3_1 : Int) := of_decide_eq_true (by first | (with_reducible assumption) | assumption)
       have q260 : x3_1 < (l0.length : Int) := of_decide_eq_true (by first | (with_reducible assumption) | assumption)
       obtain ⟨ad260, e260, hx260_0, hx260_1, hx260_2, hx260_3, hx260_4, hx260_5, hx260_6⟩ := at_T107 HR0.out x3_1 p260 q260
       obtain rfl : ad259 = ad260 := (by injection e260)
       replace p260 := eq_true p260
       replace q260 := eq_true q260
       go_wp2
       go_roundg k1
       case measure => have := HK1.out; omega
       case rel => exact ⟨(wrap64 (x3_1 + 1)), (by first | rfl | (simp; done) | (simp [*]; done)), H', ⟨by have := HK1.out; omega⟩, by repeat (first | exact Drawn0.refl _ | apply Drawn0.step)⟩
     ·rw [if_neg c4] at H
      have c4b0 : decide (200 < ((rd_T107 l0 x3_1).f4)) = false := decide_eq_false c4
      clear c4
      have H' := XPrint.A0 H
      clear H
      have p259 : 0 ≤ (x3_1 : Int) := of_decide_eq_true (by first | (with_reducible assumption) | assumption)
      have q259 : x3_1 < (l0.length : Int) := of_decide_eq_true (by first | (with_reducible assumption) | assumption)
      obtain ⟨ad259, e259, hx259_0, hx259_1, hx259_2, hx259_3, hx259_4, hx259_5, hx259_6⟩ := at_T107 HR0.out x3_1 p259 q259
      cases e259
      replace p259 := eq_true p259
      replace q259 := eq_true q259
      go_wp2
      go_roundg k1
      case measure => have := HK1.out; omega
      case rel => exact ⟨(wrap64 (x3_1 + 1)), (by first | rfl | (simp; done) | (simp [*]; done)), H', ⟨by have := HK1.out; omega⟩, by repeat (first | exact Drawn0.refl _ | apply Drawn0.step)⟩
    ·rw [if_neg c3] at H
     exact absurd H (by simp)
   ·rw [if_neg c2] at H
    have c2b0 : decide (x3_1 < (l0.length : Int)) = false := decide_eq_false c2
    clear c2
    obtain rfl := Option.some.inj H
    go_wp2
    go_ret
    exact ⟨by first | rfl | (simp; done) | (simp [*]; done), by repeat (first | exact Drawn0.refl _ | apply Drawn0.step)⟩

-- NOT PRINTED: function 103 (ledger_Ledger_none)

-- NOT PRINTED: function 51 (ledger_Ledger_Free)

-- NOT PRINTED: function 21 (node_Table_Join)

-- NOT PRINTED: function 52 (ledger_Ledger_Join)

-- NOT PRINTED: function 20 (node_Table_Lose)

-- NOT PRINTED: function 104 (api_Box_104)

-- NOT PRINTED: function 53 (ledger_Ledger_Lose)

-- NOT PRINTED: function 58 (ledger_Ledger_Room)

-- NOT PRINTED: function 106 (ledger_Ledger_may)

-- NOT PRINTED: function 142 (atomic_AddUint32)

-- NOT PRINTED: function 107 (atomic_Uint32_Add)

-- NOT PRINTED: function 54 (ledger_Ledger_Give)

-- NOT PRINTED: function 110 (api_Box_110)

-- NOT PRINTED: function 56 (ledger_Ledger_Boxes)

-- NOT PRINTED: function 115 (ledger_owned)

-- NOT PRINTED: function 61 (ledger_Ledger_Of)

-- NOT PRINTED: function 55 (ledger_Ledger_Take)

/-! ### liverylaw23_of: function 101 -/
def liverylaw23_of.f (a0 : Int) (a1 : Int) (a2 : Int) : Option (Int × Int × Int) := some (a0, a1, a2)
set_option maxHeartbeats 8000000 in
set_option maxRecDepth 100000 in
theorem liverylaw23_of.calls (a0 : Int) (a1 : Int) (a2 : Int) (r1 : Int) (r2 : Int) (r3 : Int) (w : World) (h : liverylaw23_of.f a0 a1 a2 = some (r1, r2, r3)) :
  Calls Try.prog 101 #[.int .u32 a0, .int .i64 a1, .int .i64 a2] w fun e w' => e = .returned (.agg #[.int .u32 r1, .int .i64 r2, .int .i64 r3]) ∧ Below w.heap.size w w' := by
 have hu39 := Try.underlying39
 have hu23 := Try.underlying23
 have HB := XPrint.A0 (Below.refl w.heap.size w)
 have H : (some (a0, a1, a2)) = some (r1, r2, r3) := h
 clear h
 simp only [Option.some.injEq, Prod.mk.injEq] at H
 obtain ⟨rfl, rfl, rfl⟩ := H
 go_enter Try.func101, Try.ntmps101
 go_wp2_with (first | ((with_reducible refine gate_dst (N := 6) rfl ?_); refine box_event ?hg (N := 6) ?hd (cs := #[.int .u32 0, .int .i64 0, .int .i64 0]) (t := 39) ?hr ?_; (case hd => rfl); (case hg => rfl); (case hr => first | (go_simp; done) | (go_simp; rfl)); intro gb261 hg w4 hbox hb; have BK261 := XPrint.A0 (hbox); have GW261 := XPrint.A0 (XPrint.gz HB.out hg); have GE261 := XPrint.A0 (XPrint.gz HB.out hg); replace HB := XPrint.A0 (below_step (by exact XPrint.bz HB.out) hb); clear hb hbox hg; have hcz5_0 : w4.cell? ⟨gb261, 0, none⟩ = some (.int .u32 0) := (blk_cell BK261.out 0).trans rfl; have hcz5_1 : w4.cell? ⟨gb261, 1, none⟩ = some (.int .i64 0) := (blk_cell BK261.out 1).trans rfl; have hcz5_2 : w4.cell? ⟨gb261, 2, none⟩ = some (.int .i64 0) := (blk_cell BK261.out 2).trans rfl; have hfz5_0 := blk_frozen BK261.out 0; have hfz5_1 := blk_frozen BK261.out 1; have hfz5_2 := blk_frozen BK261.out 2))
 refine bodyPost_ret (results_cell_row rfl _ _ gb261 39 #[.int .u32 a0, .int .i64 a1, .int .i64 a2] (0, 0) _ rfl (by (repeat with_reducible first | refine XPrint.d1 ?_ | refine XPrint.d2 ?_ _ | refine XPrint.d3 ?_ _); refine blk_put (cs := #[.int .u32 a0, .int .i64 a1, .int .i64 0]) ?_ 2 _ rfl; (repeat with_reducible first | refine XPrint.d1 ?_ | refine XPrint.d2 ?_ _ | refine XPrint.d3 ?_ _); refine blk_put (cs := #[.int .u32 a0, .int .i64 0, .int .i64 0]) ?_ 1 _ rfl; (repeat with_reducible first | refine XPrint.d1 ?_ | refine XPrint.d2 ?_ _ | refine XPrint.d3 ?_ _); refine blk_put (cs := #[.int .u32 0, .int .i64 0, .int .i64 0]) ?_ 0 _ rfl; (repeat with_reducible first | refine XPrint.d1 ?_ | refine XPrint.d2 ?_ _ | refine XPrint.d3 ?_ _); exact BK261.out) Try.underlying39 rfl (by kernel_rfl)) rfl ?_
 exact ⟨by first | rfl | (simp [errW_none, errW_some] <;> rfl) | (simp [*, errW_none, errW_some] <;> rfl), by repeat (first | (with_reducible first | exact HB.out | apply below_alloc | apply pw_below_drewN | apply below_drew1 | refine below_set ?_ GE261.out) | exact HB.out)⟩

end Go.Proofs.Ythibppfdonepoaa.PLedLib
