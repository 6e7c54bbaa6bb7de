-- printed by this session's own driver over the kit's printer: Lean checks it
import Derived.Test.YthibppfdonepoaaCLedgerRoomsPNodePlaysx0
import Derived.Test.YthibppfdonepoaaCLedgerRoomsPNodePlaysx2
namespace Go.Proofs.Ythibppfdonepoaa.PNodePlays
open Go.RowKit Go.Proofs.YthibppfdonepoaaW.PrintWords Go.Proofs.YthibppfdonepoaaW.PrintLast Go.Proofs.YthibppfdonepoaaW.PrintMore
attribute [local go_sem] max2_int min2_int max_two min_two max_three min_three max_four min_four   -- for this text's walks alone
set_option linter.unusedVariables false
set_option linter.unusedSimpArgs false

/-! GIVEN -/
/-! ### vec_Scale: function 79 -/
/-- What Scale makes of one number. -/
def vec_Scale.v (x n : Int) : Int := if x = 0 ∨ n = 0 then 0 else if n < -1125899906842624 ∨ n > 1125899906842624 ∨ mx x (-x) > 1125899906842624 / mx n (-n) then 0 else x * n
def vec_Scale.bad (x n : Int) : Bool := decide (¬ (x = 0 ∨ n = 0) ∧ (n < -1125899906842624 ∨ n > 1125899906842624 ∨ mx x (-x) > 1125899906842624 / mx n (-n)))
abbrev vec_Scale.may (x y : Int) : Prop := (-1125899906842624 ≤ x ∧ x ≤ 1125899906842624) ∧ (-1125899906842624 ≤ y ∧ y ≤ 1125899906842624)
def vec_Scale.f (a0_0 a0_1 a1 : Int) : Option (Int × Int × Int) :=
  if ¬ (-9223372036854775808 ≤ a1 ∧ a1 ≤ 9223372036854775807) then none else
  if vec_Scale.may a0_0 a0_1 then (if vec_Scale.bad a0_0 a1 = true ∨ vec_Scale.bad a0_1 a1 = true then some (0, 0, 10) else some (vec_Scale.v a0_0 a1, vec_Scale.v a0_1 a1, 0)) else some (0, 0, 10)

theorem vec_Scale.fits_one (n : Int) : vec_fits_int64.f 3 [n] = some (decide (-1125899906842624 ≤ n ∧ n ≤ 1125899906842624)) := by
  have e : wrap64 (0 + 1) = 1 := by unfold wrap64; omega
  simp only [vec_fits_int64.f, vec_fits_int64.l0, rd, e]
  by_cases h1 : n < -1125899906842624
  · rw [decide_eq_false (by omega)]; simp [h1]
  · by_cases h2 : n > 1125899906842624
    · rw [decide_eq_false (by omega)]; simp [h1, h2]
    · rw [decide_eq_true (by omega)]; simp [h1, h2]
theorem vec_Scale.May_f (x y : Int) : vec_May.f 3 x y = some (decide (vec_Scale.may x y)) := by
  have e : wrap64 (0 + 1) = 1 := by unfold wrap64; omega
  have e2 : wrap64 (1 + 1) = 2 := by unfold wrap64; omega
  simp only [vec_May.f, vec_fits_int64.f, vec_fits_int64.l0, rd, e, e2]
  by_cases h1 : x < -1125899906842624
  · rw [decide_eq_false (by omega)]; simp [h1]
  · by_cases h2 : x > 1125899906842624
    · rw [decide_eq_false (by omega)]; simp [h1, h2]
    · by_cases h3 : y < -1125899906842624
      · rw [decide_eq_false (by omega)]; simp [h1, h2, h3]
      · by_cases h4 : y > 1125899906842624
        · rw [decide_eq_false (by omega)]; simp [h1, h2, h3, h4]
        · rw [decide_eq_true (by omega)]; simp [h1, h2, h3, h4]
theorem vec_Scale.mul_in {x n u d : Int} (hu : mx x (-x) = u) (hd : mx n (-n) = d) (hd1 : 1 ≤ d) (hq : ¬ u > 1125899906842624 / d) : -1125899906842624 ≤ x * n ∧ x * n ≤ 1125899906842624 := by
  have h1 : u * d ≤ 1125899906842624 / d * d := Int.mul_le_mul_of_nonneg_right (by omega) (by omega)
  have h2 : 1125899906842624 / d * d ≤ 1125899906842624 := Int.ediv_mul_le _ (by omega)
  have hx : x = u ∨ x = -u := by rw [← hu]; unfold mx; split <;> omega
  have hn : n = d ∨ n = -d := by rw [← hd]; unfold mx; split <;> omega
  have h0 : 0 ≤ u := by rw [← hu]; unfold mx; split <;> omega
  have h3 : 0 ≤ u * d := Int.mul_nonneg h0 (by omega)
  rcases hx with hx | hx <;> rcases hn with hn | hn <;> rw [hx, hn]
  · exact ⟨by omega, by omega⟩
  · rw [Int.mul_neg]; exact ⟨by omega, by omega⟩
  · rw [Int.neg_mul]; exact ⟨by omega, by omega⟩
  · rw [Int.neg_mul_neg]; exact ⟨by omega, by omega⟩
/-- What the closure leaves: only the block of 'is' may have changed; it holds b. -/
structure vec_Scale.Left (bi : Nat) (b : Bool) (w w' : World) : Prop where
  but : XPrint.ButB bi w w'
  cell : w'.cell? ⟨bi, 0, none⟩ = some (.bool b)
  frozen : w'.frozen? ⟨bi, 0, none⟩ = false
set_option maxHeartbeats 4000000 in
set_option maxRecDepth 100000 in
theorem vec_Scale.one (x y n : Int) (b : Bool) (bn bi : Nat) (w : World) (hx : -1125899906842624 ≤ x ∧ x ≤ 1125899906842624) (hn64 : -9223372036854775808 ≤ n ∧ n ≤ 9223372036854775807) (hn : w.cell? ⟨bn, 0, none⟩ = some (.int .i64 n)) (hi : w.cell? ⟨bi, 0, none⟩ = some (.bool b)) (hf : w.frozen? ⟨bi, 0, none⟩ = false) :
    Calls Try.prog 128 #[.int .i64 x, .int .i64 y, .pointer (some ⟨bn, 0, none⟩), .pointer (some ⟨bi, 0, none⟩)] w fun e w' =>
      e = .returned (.int .i64 (vec_Scale.v x n)) ∧ vec_Scale.Left bi (b && !vec_Scale.bad x n) w w' := by
  obtain ⟨hx1, hx2⟩ := hx
  obtain ⟨hn1, hn2⟩ := hn64
  have hbi := World.block_lt_of_cell? w _ hi
  have hbn := World.block_lt_of_cell? w _ hn
  have hne1 : bn ≠ w.heap.size := Nat.ne_of_lt hbn
  have hne2 : bi ≠ w.heap.size := Nat.ne_of_lt hbi
  by_cases x0 : x = 0
  · have x0b : (x == 0) = true := by simp [x0]
    have e1 : vec_Scale.v x n = 0 := by simp [vec_Scale.v, x0]
    have e2 : vec_Scale.bad x n = false := by simp [vec_Scale.bad, x0]
    have E := Aside0.mk (And.intro e1 e2)
    clear e1 e2 x0
    go_enter Try.func128, Try.ntmps128
    go_wp2
    go_ret
    exact ⟨by rw [E.out.1]; rfl, ⟨.refl _ _, by rw [E.out.2]; simpa using hi, hf⟩⟩
  · have x0b : (x == 0) = false := by simp [x0]
    by_cases n0 : n = 0
    · have n0b : (n == 0) = true := by simp [n0]
      have e1 : vec_Scale.v x n = 0 := by simp [vec_Scale.v, n0]
      have e2 : vec_Scale.bad x n = false := by simp [vec_Scale.bad, n0]
      have E := Aside0.mk (And.intro e1 e2)
      clear e1 e2 n0 x0
      go_enter Try.func128, Try.ntmps128
      go_wp2
      go_ret
      exact ⟨by rw [E.out.1]; rfl, ⟨.refl _ _, by rw [E.out.2]; simpa using hi, hf⟩⟩
    · have n0b : (n == 0) = false := by simp [n0]
      have F := Aside0.mk (vec_Scale.fits_one n)
      by_cases hr : -1125899906842624 ≤ n ∧ n ≤ 1125899906842624
      · have F2 : Aside0 (vec_fits_int64.f 3 [n] = some true) := ⟨by rw [F.out, decide_eq_true hr]⟩
        clear F
        obtain ⟨hr1, hr2⟩ := hr
        obtain ⟨u, hu⟩ : ∃ u : Int, mx x (-x) = u := ⟨_, rfl⟩
        obtain ⟨d, hd⟩ : ∃ d : Int, mx n (-n) = d := ⟨_, rfl⟩
        have hd1 : 1 ≤ d := by rw [← hd]; unfold mx; split <;> omega
        have hd2 : d ≤ 1125899906842624 := by rw [← hd]; unfold mx; split <;> omega
        have hu1 : 0 ≤ u := by rw [← hu]; unfold mx; split <;> omega
        have hu2 : u ≤ 1125899906842624 := by rw [← hu]; unfold mx; split <;> omega
        have hu' : (if x < -x then -x else x) = u := hu
        have hd' : (if n < -n then -n else n) = d := hd
        by_cases hq : u > 1125899906842624 / d
        · have e1 : vec_Scale.v x n = 0 := by unfold vec_Scale.v; rw [if_neg (by omega), if_pos (by rw [hu, hd]; omega)]
          have e2 : vec_Scale.bad x n = true := by unfold vec_Scale.bad; rw [hu, hd]; exact decide_eq_true ⟨by omega, by omega⟩
          have E := Aside0.mk (And.intro e1 e2)
          have hqb : decide (1125899906842624 / d < u) = true := decide_eq_true hq
          clear e1 e2 n0 x0 hq hu hd
          go_enter Try.func128, Try.ntmps128
          go_wp2_with (go_at_call 129; refine (vec_fits_int64.calls 3 _ _ [n] true _ ?side1 ?side2 F2.out).mono ?_; (case side1 => exact XPrint.reads_one (by simp; done)); (case side2 => exact Nat.le_refl _); rintro e w' ⟨rfl, ⟨nd, rfl⟩⟩)
          go_ret
          obtain ⟨s1, s2, s3⟩ := XPrint.store_left (.bool false) (pw_below_drewN (below_alloc (Below.refl _ _) _) nd) hi hf
          exact ⟨by rw [E.out.1]; rfl, ⟨s1, by rw [E.out.2]; simpa using s2, s3⟩⟩
        · have hxn : -1125899906842624 ≤ x * n ∧ x * n ≤ 1125899906842624 := vec_Scale.mul_in hu hd (by omega) hq
          have e1 : vec_Scale.v x n = x * n := by unfold vec_Scale.v; rw [if_neg (by omega), if_neg (by rw [hu, hd]; omega)]
          have e2 : vec_Scale.bad x n = false := by unfold vec_Scale.bad; rw [hu, hd]; exact decide_eq_false (by omega)
          have e3 : wrap64 (x * n) = x * n := IntWalk.wrap64_in _ ⟨by omega, by omega⟩
          have E := Aside0.mk (And.intro e1 (And.intro e2 e3))
          have hqb : decide (1125899906842624 / d < u) = false := decide_eq_false hq
          clear e1 e2 e3 n0 x0 hq hu hd hxn
          go_enter Try.func128, Try.ntmps128
          go_wp2_with (go_at_call 129; refine (vec_fits_int64.calls 3 _ _ [n] true _ ?side1 ?side2 F2.out).mono ?_; (case side1 => exact XPrint.reads_one (by simp; done)); (case side2 => exact Nat.le_refl _); rintro e w' ⟨rfl, ⟨nd, rfl⟩⟩)
          go_ret
          exact ⟨by rw [E.out.1]; show Ending.returned (Value.int IntKind.i64 (wrap64 (x * n))) = _; rw [E.out.2.2], ⟨XPrint.ButB.of_below (pw_below_drewN (below_alloc (Below.refl _ _) _) nd), by rw [E.out.2.1]; simpa using ((pw_below_drewN (below_alloc (Below.refl _ _) _) nd).cell (p := ⟨bi, 0, none⟩) hbi).trans hi, ((pw_below_drewN (below_alloc (Below.refl _ _) _) nd).frozen (p := ⟨bi, 0, none⟩) hbi).trans hf⟩⟩
      · have F2 : Aside0 (vec_fits_int64.f 3 [n] = some false) := ⟨by rw [F.out, decide_eq_false hr]⟩
        clear F
        have e1 : vec_Scale.v x n = 0 := by unfold vec_Scale.v; rw [if_neg (by omega), if_pos (by omega)]
        have e2 : vec_Scale.bad x n = true := by unfold vec_Scale.bad; exact decide_eq_true ⟨by omega, by omega⟩
        have E := Aside0.mk (And.intro e1 e2)
        clear e1 e2 n0 x0 hr
        go_enter Try.func128, Try.ntmps128
        go_wp2_with (go_at_call 129; refine (vec_fits_int64.calls 3 _ _ [n] false _ ?side1 ?side2 F2.out).mono ?_; (case side1 => exact XPrint.reads_one (by simp; done)); (case side2 => exact Nat.le_refl _); rintro e w' ⟨rfl, ⟨nd, rfl⟩⟩)
        go_ret
        obtain ⟨s1, s2, s3⟩ := XPrint.store_left (.bool false) (pw_below_drewN (below_alloc (Below.refl _ _) _) nd) hi hf
        exact ⟨by rw [E.out.1]; rfl, ⟨s1, by rw [E.out.2]; simpa using s2, s3⟩⟩
set_option maxHeartbeats 4000000 in
set_option maxRecDepth 100000 in
theorem vec_Scale.both (x y n : Int) (b : Bool) (bn bi : Nat) (w : World) (hx : -1125899906842624 ≤ x ∧ x ≤ 1125899906842624) (hy : -1125899906842624 ≤ y ∧ y ≤ 1125899906842624) (hn64 : -9223372036854775808 ≤ n ∧ n ≤ 9223372036854775807) (hn : w.cell? ⟨bn, 0, none⟩ = some (.int .i64 n)) (hi : w.cell? ⟨bi, 0, none⟩ = some (.bool b)) (hf : w.frozen? ⟨bi, 0, none⟩ = false) (hbb : bn ≠ bi) :
    Calls Try.prog 157 #[.agg #[.int .i64 x, .int .i64 y], .agg #[.int .i64 x, .int .i64 y], .func (.func 128) #[] #[.pointer (some ⟨bn, 0, none⟩), .pointer (some ⟨bi, 0, none⟩)]] w fun e w' =>
      e = .returned (.tuple #[.int .i64 (vec_Scale.v x n), .int .i64 (vec_Scale.v y n)]) ∧ vec_Scale.Left bi ((b && !vec_Scale.bad x n) && !vec_Scale.bad y n) w w' := by
  have hbi := World.block_lt_of_cell? w _ hi
  have hbn := World.block_lt_of_cell? w _ hn
  have hne1 : bn ≠ w.heap.size := Nat.ne_of_lt hbn
  have hne2 : bi ≠ w.heap.size := Nat.ne_of_lt hbi
  have hne3 : bn ≠ w.heap.size + 1 := by have : bn < w.heap.size := hbn; omega
  have hne4 : bi ≠ w.heap.size + 1 := by have : bi < w.heap.size := hbi; omega
  have hne5 := Ne.symm hne2
  have hne6 := Ne.symm hne4
  have HBB : ∀ o1 o2, Below w.heap.size w ((w.alloc o1).alloc o2).drew := fun o1 o2 => below_drew (below_alloc (below_alloc (Below.refl _ _) _) _)
  go_enter Try.func157, Try.ntmps157
  go_wp2
  go_region_held3? (fun w' => w'.cell? ⟨w.heap.size, 0, none⟩ = some (.int .i64 x) ∧ w'.cell? ⟨w.heap.size, 1, none⟩ = some (.int .i64 y) ∧ w'.cell? ⟨w.heap.size + 1, 0, none⟩ = some (.int .i64 x) ∧ w'.cell? ⟨w.heap.size + 1, 1, none⟩ = some (.int .i64 y) ∧ w'.cell? ⟨bn, 0, none⟩ = some (.int .i64 n))
    (first | (go_split_ands; refine ⟨?_, ?_, ?_, ?_, ?_⟩ <;> (refine XPrint.ButB.cell (b := bi) (by first | exact hL1.but | exact hL2.but) (by assumption) (by assumption))) | go_keep)
    (first | (go_simp; go_at_call 128; (with_reducible refine (vec_Scale.one x x n b bn bi _ hx hn64 (by exact ((HBB _ _).cell (p := ⟨bn, 0, none⟩) hbn).trans hn) (by exact ((HBB _ _).cell (p := ⟨bi, 0, none⟩) hbi).trans hi) (by exact ((HBB _ _).frozen (p := ⟨bi, 0, none⟩) hbi).trans hf)).mono ?_); rintro e w1 ⟨rfl, hL1⟩; dsimp only) | (go_simp; go_at_call 128; (with_reducible refine (vec_Scale.one y y n _ bn bi _ hy hn64 (by exact hL1.but.cell (((HBB _ _).cell (p := ⟨bn, 0, none⟩) hbn).trans hn) hbb) (by exact hL1.cell) (by exact hL1.frozen)).mono ?_); rintro e w2 ⟨rfl, hL2⟩; dsimp only))
  go_wp2
  go_ret2
  exact ⟨rfl, ⟨((XPrint.ButB.of_below (HBB _ _)).trans hL1.but).trans hL2.but, hL2.cell, hL2.frozen⟩⟩
set_option maxHeartbeats 4000000 in
set_option maxRecDepth 100000 in
theorem vec_Scale.made (x y n : Int) (b : Bool) (bn bi : Nat) (w : World) (hx : -1125899906842624 ≤ x ∧ x ≤ 1125899906842624) (hy : -1125899906842624 ≤ y ∧ y ≤ 1125899906842624) (hn64 : -9223372036854775808 ≤ n ∧ n ≤ 9223372036854775807) (hn : w.cell? ⟨bn, 0, none⟩ = some (.int .i64 n)) (hi : w.cell? ⟨bi, 0, none⟩ = some (.bool b)) (hf : w.frozen? ⟨bi, 0, none⟩ = false) (hbb : bn ≠ bi) :
    Calls Try.prog 127 #[.agg #[.int .i64 x, .int .i64 y], .agg #[.int .i64 x, .int .i64 y], .func (.func 128) #[] #[.pointer (some ⟨bn, 0, none⟩), .pointer (some ⟨bi, 0, none⟩)]] w fun e w' =>
      e = .returned (.agg #[.int .i64 (vec_Scale.v x n), .int .i64 (vec_Scale.v y n)]) ∧ vec_Scale.Left bi ((b && !vec_Scale.bad x n) && !vec_Scale.bad y n) w w' := by
  have hbi : bi < w.heap.size := World.block_lt_of_cell? w _ hi
  have hbn : bn < w.heap.size := World.block_lt_of_cell? w _ hn
  have HBB : ∀ o1 o2 o3, Below w.heap.size w (((w.alloc o1).alloc o2).alloc o3) := fun o1 o2 o3 => below_alloc (below_alloc (below_alloc (Below.refl _ _) _) _) _
  have hne : w.heap.size + 1 + 1 ≠ bi := by omega
  have hu := Try.underlying23
  go_enter Try.func127, Try.ntmps127
  go_wp2_with fail
  refine (vec_Scale.both x y n b bn bi _ hx hy hn64 ?_ ?_ ?_ hbb).mono ?_
  · exact ((HBB _ _ _).cell (p := ⟨bn, 0, none⟩) hbn).trans hn
  · exact ((HBB _ _ _).cell (p := ⟨bi, 0, none⟩) hbi).trans hi
  · exact ((HBB _ _ _).frozen (p := ⟨bi, 0, none⟩) hbi).trans hf
  rintro e w1 ⟨rfl, hL⟩
  have hr0 : w1.cell? ⟨w.heap.size + 1 + 1, 0, none⟩ = some (.int .i64 0) := hL.but.cell (XPrint.new_cell _ _ _ 0 rfl (by simp)) hne
  have hr1 : w1.cell? ⟨w.heap.size + 1 + 1, 1, none⟩ = some (.int .i64 0) := hL.but.cell (XPrint.new_cell _ _ _ 1 rfl (by simp)) hne
  have hr2 : w1.frozen? ⟨w.heap.size + 1 + 1, 0, none⟩ = false := (hL.but.frozen (p := ⟨w.heap.size + 1 + 1, 0, none⟩) (by simp) hne).trans (XPrint.new_free _ _ _ _ (by simp))
  have hr3 : w1.frozen? ⟨w.heap.size + 1 + 1, 1, none⟩ = false := (hL.but.frozen (p := ⟨w.heap.size + 1 + 1, 1, none⟩) (by simp) hne).trans (XPrint.new_free _ _ _ _ (by simp))
  dsimp only
  go_wp2
  refine bodyPost_ret (v := .agg #[.int .i64 (vec_Scale.v x n), .int .i64 (vec_Scale.v y n)]) (by simp [results, Try.results127, go_sem, hr0, hr1]) rfl ⟨rfl, ?_⟩
  have hbut : XPrint.ButB bi w ((w1.setCell ⟨w.heap.size + 1 + 1, 0, none⟩ (.int .i64 (vec_Scale.v x n))).setCell ⟨w.heap.size + 1 + 1, 1, none⟩ (.int .i64 (vec_Scale.v y n))) := XPrint.ButB.set_new (XPrint.ButB.set_new ((XPrint.ButB.of_below (HBB _ _ _)).trans hL.but) (by omega) _ _) (by omega) _ _
  refine ⟨hbut, ?_, ?_⟩
  · exact (XPrint.cell_far _ ⟨w.heap.size + 1 + 1, 1, none⟩ ⟨bi, 0, none⟩ _ (Ne.symm hne)).trans ((XPrint.cell_far _ ⟨w.heap.size + 1 + 1, 0, none⟩ ⟨bi, 0, none⟩ _ (Ne.symm hne)).trans hL.cell)
  · rw [World.frozen?_setCell, World.frozen?_setCell]; exact hL.frozen
theorem vec_Scale.three (w : World) (o0 o1 o2 : Obj) : (((w.alloc o0).alloc o1).alloc o2).heap[w.heap.size]? = some o0 ∧ (((w.alloc o0).alloc o1).alloc o2).heap[w.heap.size + 1]? = some o1 ∧ (((w.alloc o0).alloc o1).alloc o2).heap[w.heap.size + 1 + 1]? = some o2 := by
  have e1 : (w.alloc o0).heap.size = w.heap.size + 1 := World.size_alloc ..
  have e2 : ((w.alloc o0).alloc o1).heap.size = w.heap.size + 1 + 1 := by rw [World.size_alloc, World.size_alloc]
  refine ⟨blk_alloc (blk_alloc (heap_alloc_new w o0) _) _, ?_, ?_⟩
  · rw [← e1]; exact blk_alloc (heap_alloc_new _ o1) _
  · rw [← e2]; exact heap_alloc_new _ o2
theorem vec_Scale.boxed {w : World} (o1 o2 o3 : Obj) : Below w.heap.size w (((w.alloc o1).alloc o2).alloc o3) := below_alloc (below_alloc (below_alloc (Below.refl _ _) _) _) _
set_option maxHeartbeats 4000000 in
set_option maxRecDepth 100000 in
theorem vec_Scale.calls (a0_0 : Int) (a0_1 : Int) (a1 : Int) (r1 : Int) (r2 : Int) (r3 : Int) (w : World) (h : vec_Scale.f a0_0 a0_1 a1 = some (r1, r2, r3)) :
    Calls Try.prog 79 #[.agg #[.int .i64 a0_0, .int .i64 a0_1], .int .i64 a1] w fun e w' => e = .returned (.tuple #[.agg #[.int .i64 r1, .int .i64 r2], .int .i64 r3]) ∧ Below w.heap.size w w' := by
  unfold vec_Scale.f at h
  by_cases hn64 : -9223372036854775808 ≤ a1 ∧ a1 ≤ 9223372036854775807
  · rw [if_neg (by omega)] at h
    have hu := Try.underlying23
    have hM := vec_Scale.May_f a0_0 a0_1
    go_enter Try.func79, Try.ntmps79
    go_wp2_with fail
    refine (vec_May.calls 3 a0_0 a0_1 _ _ hM).mono ?_
    rintro e w1 ⟨rfl, hb⟩
    have hsz : w.heap.size + 1 + 1 < w1.heap.size := by have := hb.size; rw [World.size_alloc, World.size_alloc, World.size_alloc] at this; omega
    obtain ⟨q0, q1, q2⟩ := vec_Scale.three w (.cells #[.int .i64 a0_0, .int .i64 a0_1] 23) (.cells #[.int .i64 a1] 2) (.cells #[.int .i64 0, .int .i64 0] 23)
    have k0 := blk_below q0 hb
    have k1 := blk_below q1 hb
    have k2 := blk_below q2 hb
    have c0 : w1.cell? ⟨w.heap.size, 0, none⟩ = some (.int .i64 a0_0) := blk_cell k0 0
    have c1 : w1.cell? ⟨w.heap.size, 1, none⟩ = some (.int .i64 a0_1) := blk_cell k0 1
    have c2 : w1.cell? ⟨w.heap.size + 1, 0, none⟩ = some (.int .i64 a1) := blk_cell k1 0
    have c3 : w1.cell? ⟨w.heap.size + 1 + 1, 0, none⟩ = some (.int .i64 0) := blk_cell k2 0
    have c4 : w1.cell? ⟨w.heap.size + 1 + 1, 1, none⟩ = some (.int .i64 0) := blk_cell k2 1
    have f3 : w1.frozen? ⟨w.heap.size + 1 + 1, 0, none⟩ = false := blk_frozen k2 0
    have f4 : w1.frozen? ⟨w.heap.size + 1 + 1, 1, none⟩ = false := blk_frozen k2 1
    clear q0 q1 q2 k0 k1
    have K2 := Aside0.mk k2
    clear k2
    have hB1 : Below w.heap.size w w1 := below_then (vec_Scale.boxed _ _ _) (by rw [World.size_alloc, World.size_alloc, World.size_alloc]; omega) hb
    clear hb
    by_cases hm : vec_Scale.may a0_0 a0_1
    · rw [if_pos hm] at h
      rw [decide_eq_true hm]
      dsimp only
      have d0 : ∀ o, (w1.alloc o).cell? ⟨w.heap.size, 0, none⟩ = some (.int .i64 a0_0) := fun o => pw_cell_below (below_alloc (Below.refl _ _) o) c0
      have d1 : ∀ o, (w1.alloc o).cell? ⟨w.heap.size, 1, none⟩ = some (.int .i64 a0_1) := fun o => pw_cell_below (below_alloc (Below.refl _ _) o) c1
      clear c0 c1
      go_wp2_with fail
      refine (vec_Scale.made a0_0 a0_1 a1 true (w.heap.size + 1) w1.heap.size _ hm.1 hm.2 hn64 ?_ ?_ ?_ ?_).mono ?_
      · exact pw_cell_below (below_alloc (Below.refl _ _) _) c2
      · exact XPrint.new_cell _ _ _ 0 rfl rfl
      · exact XPrint.new_free _ _ _ 0 rfl
      · omega
      rintro e w2 ⟨rfl, hL⟩
      have hB2 : Below w.heap.size w w2 := XPrint.ButB.below (hB1.alloc (by omega) _) (by rw [World.size_alloc]; omega) hL.but (by omega)
      have hs2 : w1.heap.size < w2.heap.size := by have := hL.but.size; rw [World.size_alloc] at this; omega
      have k2 := (hL.but.block (w.heap.size + 1 + 1) (by rw [World.size_alloc]; omega) (by omega)).trans (blk_alloc K2.out _)
      have c3 : w2.cell? ⟨w.heap.size + 1 + 1, 0, none⟩ = some (.int .i64 0) := blk_cell k2 0
      have c4 : w2.cell? ⟨w.heap.size + 1 + 1, 1, none⟩ = some (.int .i64 0) := blk_cell k2 1
      have f3 : w2.frozen? ⟨w.heap.size + 1 + 1, 0, none⟩ = false := blk_frozen k2 0
      have f4 : w2.frozen? ⟨w.heap.size + 1 + 1, 1, none⟩ = false := blk_frozen k2 1
      have e3 : ∀ o, (w2.alloc o).cell? ⟨w.heap.size + 1 + 1, 0, none⟩ = some (.int .i64 0) := fun o => pw_cell_below (below_alloc (Below.refl _ _) o) c3
      have e4 : ∀ o, (w2.alloc o).cell? ⟨w.heap.size + 1 + 1, 1, none⟩ = some (.int .i64 0) := fun o => pw_cell_below (below_alloc (Below.refl _ _) o) c4
      have g3 : ∀ o, (w2.alloc o).frozen? ⟨w.heap.size + 1 + 1, 0, none⟩ = false := fun o => ((below_alloc (Below.refl _ w2) o).frozen (p := ⟨w.heap.size + 1 + 1, 0, none⟩) (show w.heap.size + 1 + 1 < w2.heap.size by omega)).trans f3
      have g4 : ∀ o, (w2.alloc o).frozen? ⟨w.heap.size + 1 + 1, 1, none⟩ = false := fun o => ((below_alloc (Below.refl _ w2) o).frozen (p := ⟨w.heap.size + 1 + 1, 1, none⟩) (show w.heap.size + 1 + 1 < w2.heap.size by omega)).trans f4
      have hI := hL.cell
      by_cases hbad : vec_Scale.bad a0_0 a1 = true ∨ vec_Scale.bad a0_1 a1 = true
      · rw [if_pos hbad] at h
        obtain ⟨rfl, rfl, rfl⟩ : 0 = r1 ∧ 0 = r2 ∧ 10 = r3 := by simpa using h
        have hI : ∀ o, (w2.alloc o).cell? ⟨w1.heap.size, 0, none⟩ = some (.bool false) := fun o => pw_cell_below (below_alloc (Below.refl _ _) o) (by rw [hL.cell]; rcases hbad with hb | hb <;> simp [hb])
        clear c2 c3 c4 f3 f4 d0 d1 k2 hbad hm
        dsimp only
        go_wp2
        refine bodyPost_ret (v := .tuple #[.agg #[.int .i64 0, .int .i64 0], .int .i64 10]) (by simp [results, Try.results79, go_sem, e3, e4]) rfl ⟨rfl, ?_⟩
        exact ((hB2.alloc (by omega) _).setCell (p := ⟨w.heap.size + 1 + 1, 0, none⟩) (show w.heap.size ≤ w.heap.size + 1 + 1 by omega) _).setCell (p := ⟨w.heap.size + 1 + 1, 1, none⟩) (show w.heap.size ≤ w.heap.size + 1 + 1 by omega) _
      · rw [if_neg hbad] at h
        obtain ⟨h1, h2, rfl⟩ : vec_Scale.v a0_0 a1 = r1 ∧ vec_Scale.v a0_1 a1 = r2 ∧ 0 = r3 := by simpa using h
        have hI : ∀ o, (w2.alloc o).cell? ⟨w1.heap.size, 0, none⟩ = some (.bool true) := fun o => pw_cell_below (below_alloc (Below.refl _ _) o) (by rw [hL.cell]; simp at hbad; simp [hbad])
        rw [h1, h2]
        clear c2 c3 c4 f3 f4 d0 d1 k2 hbad hm h1 h2
        dsimp only
        go_wp2
        refine bodyPost_ret (v := .tuple #[.agg #[.int .i64 r1, .int .i64 r2], .int .i64 0]) (by simp [results, Try.results79, go_sem, e3, e4]) rfl ⟨rfl, ?_⟩
        exact ((hB2.alloc (by omega) _).setCell (p := ⟨w.heap.size + 1 + 1, 0, none⟩) (show w.heap.size ≤ w.heap.size + 1 + 1 by omega) _).setCell (p := ⟨w.heap.size + 1 + 1, 1, none⟩) (show w.heap.size ≤ w.heap.size + 1 + 1 by omega) _
    · rw [if_neg hm] at h
      obtain ⟨rfl, rfl, rfl⟩ : 0 = r1 ∧ 0 = r2 ∧ 10 = r3 := by simpa using h
      rw [decide_eq_false hm]
      dsimp only
      go_wp2
      refine bodyPost_ret (v := .tuple #[.agg #[.int .i64 0, .int .i64 0], .int .i64 10]) (by simp [results, Try.results79, go_sem, c3, c4]) rfl ⟨rfl, ?_⟩
      exact (hB1.setCell (p := ⟨w.heap.size + 1 + 1, 0, none⟩) (by simp; omega) _).setCell (p := ⟨w.heap.size + 1 + 1, 1, none⟩) (by simp; omega) _
  · rw [if_pos hn64] at h
    cases h


end Go.Proofs.Ythibppfdonepoaa.PNodePlays
