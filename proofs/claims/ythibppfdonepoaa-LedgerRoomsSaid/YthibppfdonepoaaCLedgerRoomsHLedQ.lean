/- liverylaw23.head. -/
import Derived.Test.YthibppfdonepoaaCLedgerRoomsHLedP
import Derived.Test.YthibppfdonepoaaCLedgerRoomsPLedLibx9
import Derived.Test.YthibppfdonepoaaCLedgerRoomsPLedLibx10
set_option linter.unusedVariables false
set_option linter.unusedSimpArgs false
namespace Go.Proofs.Ythibppfdonepoaa.LedT
open Go.RowKit Go.MapKept Go.Maps Go.ChangeMaps Go.Proofs.Ythibppfdonepoaa.XBut Go.Proofs.Ythibppfdonepoaa.XMap Go.Proofs.Ythibppfdonepoaa.NodeT Go.Proofs.YthibppfdonepoaaW.PrintWords Go.Proofs.YthibppfdonepoaaW.PrintLast
def m5 : Nd := ⟨5, ⟨2, 9⟩⟩
def m3 : Nd := ⟨3, ⟨1, 1⟩⟩
def b1 : Bx := ⟨1, 3, 7, false⟩
def b2 : Bx := ⟨2, 5, 7, false⟩
def b3 : Bx := ⟨3, 5, 8, true⟩
theorem same_ok (xs : List Bx) (n : Nat) (hn : xs.length = n) (k : Nat) (h : PLedLib.liveryref23_Same.f k xs xs = some true) (A A2 : Option Addr) (c c2 : Nat) (w : World) (h1 : Kd.C PLedLib.k113 w A n xs) (h2 : Kd.C PLedLib.k113 w A2 n xs) (hc : n ≤ c) (hc2 : n ≤ c2) :
    Calls Try.prog 102 #[.slice A n c, .slice A2 n c2] w fun e w' => e = .returned (.bool true) ∧ Below w.heap.size w w' := by
  subst hn
  exact (PLedLib.liveryref23_Same.calls k A c xs A2 c2 xs true w h1 hc h2 hc2 h).mono fun _ _ h => ⟨h.1, h.2.below⟩
theorem cs87 (P : Nat → Prop) (h0 : P 0) (h1 : P 1) (h2 : P 2) (h3 : P 3) (h4 : P 4) (h5 : P 5) (h6 : P 6) (h7 : P 7) (h8 : P 8) (h9 : P 9) (h10 : P 10) (h11 : P 11) (h12 : P 12) (h13 : P 13) (h14 : P 14) (h15 : P 15) (h16 : P 16) (h17 : P 17) (h18 : P 18) (h19 : P 19) (h20 : P 20) (h21 : P 21) (h22 : P 22) (h23 : P 23) (h24 : P 24) (h25 : P 25) (h26 : P 26) (h27 : P 27) (h28 : P 28) (h29 : P 29) (h30 : P 30) (h31 : P 31) (h32 : P 32) (h33 : P 33) (h34 : P 34) (h35 : P 35) (h36 : P 36) (h37 : P 37) (h38 : P 38) (h39 : P 39) (h40 : P 40) (h41 : P 41) (h42 : P 42) (h43 : P 43) (h44 : P 44) (h45 : P 45) (h46 : P 46) (h47 : P 47) (h48 : P 48) (h49 : P 49) (h50 : P 50) (h51 : P 51) (h52 : P 52) (h53 : P 53) (h54 : P 54) (h55 : P 55) (h56 : P 56) (h57 : P 57) (h58 : P 58) (h59 : P 59) (h60 : P 60) (h61 : P 61) (h62 : P 62) (h63 : P 63) (h64 : P 64) (h65 : P 65) (h66 : P 66) (h67 : P 67) (h68 : P 68) (h69 : P 69) (h70 : P 70) (h71 : P 71) (h72 : P 72) (h73 : P 73) (h74 : P 74) (h75 : P 75) (h76 : P 76) (h77 : P 77) (h78 : P 78) (h79 : P 79) (h80 : P 80) (h81 : P 81) (h82 : P 82) (h83 : P 83) (h84 : P 84) (h85 : P 85) (h86 : P 86) : ∀ i, i < 87 → P i := by
  intro i hi
  rcases (by omega : i = 0 ∨ i = 1 ∨ i = 2 ∨ i = 3 ∨ i = 4 ∨ i = 5 ∨ i = 6 ∨ i = 7 ∨ i = 8 ∨ i = 9 ∨ i = 10 ∨ i = 11 ∨ i = 12 ∨ i = 13 ∨ i = 14 ∨ i = 15 ∨ i = 16 ∨ i = 17 ∨ i = 18 ∨ i = 19 ∨ i = 20 ∨ i = 21 ∨ i = 22 ∨ i = 23 ∨ i = 24 ∨ i = 25 ∨ i = 26 ∨ i = 27 ∨ i = 28 ∨ i = 29 ∨ i = 30 ∨ i = 31 ∨ i = 32 ∨ i = 33 ∨ i = 34 ∨ i = 35 ∨ i = 36 ∨ i = 37 ∨ i = 38 ∨ i = 39 ∨ i = 40 ∨ i = 41 ∨ i = 42 ∨ i = 43 ∨ i = 44 ∨ i = 45 ∨ i = 46 ∨ i = 47 ∨ i = 48 ∨ i = 49 ∨ i = 50 ∨ i = 51 ∨ i = 52 ∨ i = 53 ∨ i = 54 ∨ i = 55 ∨ i = 56 ∨ i = 57 ∨ i = 58 ∨ i = 59 ∨ i = 60 ∨ i = 61 ∨ i = 62 ∨ i = 63 ∨ i = 64 ∨ i = 65 ∨ i = 66 ∨ i = 67 ∨ i = 68 ∨ i = 69 ∨ i = 70 ∨ i = 71 ∨ i = 72 ∨ i = 73 ∨ i = 74 ∨ i = 75 ∨ i = 76 ∨ i = 77 ∨ i = 78 ∨ i = 79 ∨ i = 80 ∨ i = 81 ∨ i = 82 ∨ i = 83 ∨ i = 84 ∨ i = 85 ∨ i = 86) with rfl | rfl | rfl | rfl | rfl | rfl | rfl | rfl | rfl | rfl | rfl | rfl | rfl | rfl | rfl | rfl | rfl | rfl | rfl | rfl | rfl | rfl | rfl | rfl | rfl | rfl | rfl | rfl | rfl | rfl | rfl | rfl | rfl | rfl | rfl | rfl | rfl | rfl | rfl | rfl | rfl | rfl | rfl | rfl | rfl | rfl | rfl | rfl | rfl | rfl | rfl | rfl | rfl | rfl | rfl | rfl | rfl | rfl | rfl | rfl | rfl | rfl | rfl | rfl | rfl | rfl | rfl | rfl | rfl | rfl | rfl | rfl | rfl | rfl | rfl | rfl | rfl | rfl | rfl | rfl | rfl | rfl | rfl | rfl | rfl | rfl | rfl
  all_goals assumption
set_option maxHeartbeats 32000000 in
set_option maxRecDepth 100000 in
theorem head (w : World) : Calls Try.prog 50 #[] w fun e w' => e = .returned (.bool true) ∧ Below w.heap.size w w' := by
  have hu23 := Try.underlying23
  have hu39 := Try.underlying39
  have hu113 := Try.underlying113
  go_enter Try.func50, Try.ntmps50
  go_wp2_with fail
  refine (lnew_yes 1 1 w (by decide)).mono ?_
  rintro e w1 ⟨p, b, g, rfl, hb1, hL⟩
  have X := Aside0.mk (HS.new w w1 (by decide) hb1 hL)
  clear hb1 hL
  dsimp only
  go_wp2_with fail
  refine (PLedLib.liverylaw23_of.calls 5 2 9 5 2 9 _ rfl).mono ?_
  rintro e w2 ⟨rfl, hb⟩
  replace X := Aside0.mk (X.out.same hb)
  clear hb
  dsimp only
  go_wp2_with fail
  refine (X.out.join 5 2 9 (by decide)).mono ?_
  rintro e w3 ⟨rfl, hS⟩
  rw [show code 1 1 [] ⟨5, ⟨2, 9⟩⟩ = 0 by decide]
  rw [show nsJ 1 1 [] ⟨5, ⟨2, 9⟩⟩ = [m5] by rfl] at hS
  replace X := Aside0.mk hS
  clear hS
  dsimp only
  go_wp2_with fail
  refine (PLedLib.liverylaw23_of.calls 3 1 1 3 1 1 _ rfl).mono ?_
  rintro e w4 ⟨rfl, hb⟩
  replace X := Aside0.mk (X.out.same hb)
  clear hb
  dsimp only
  go_wp2_with fail
  refine (X.out.join 3 1 1 (by decide)).mono ?_
  rintro e w5 ⟨rfl, hS⟩
  rw [show code 1 1 [m5] ⟨3, ⟨1, 1⟩⟩ = 0 by decide]
  rw [show nsJ 1 1 [m5] ⟨3, ⟨1, 1⟩⟩ = [m3, m5] by rfl] at hS
  replace X := Aside0.mk hS
  clear hS
  dsimp only
  go_wp2_with fail
  refine (X.out.give 7 2 false (by decide)).mono ?_
  rintro e w6 ⟨va, v1, rfl, hS⟩
  rw [show gcode 1 1 [m3, m5] [] 7 2 = 0 by decide]
  rw [show given 1 1 [m3, m5] [] 0 7 false 2 = [b1, b2] by rfl] at hS
  obtain ⟨A1, c1, e1⟩ := Kd.R_slice (hS.rows _ (List.mem_cons_self ..)).1
  dsimp only [List.length_cons, List.length_nil] at e1
  subst e1
  replace X := Aside0.mk hS
  clear hS
  dsimp only
  go_wp2_with fail
  refine X.out.free.mono ?_
  rintro e w7 ⟨rfl, hb⟩
  rw [show freeN 1 1 [m3, m5] ([] ++ [b1, b2]) = 1 by rfl]
  replace X := Aside0.mk (X.out.same hb)
  clear hb
  dsimp only
  go_wp2_with fail
  refine (X.out.give 8 2 true (by decide)).mono ?_
  rintro e w8 ⟨vb, v2, rfl, hS⟩
  rw [show gcode 1 1 [m3, m5] ([] ++ [b1, b2]) 8 2 = 6 by rfl]
  rw [show given 1 1 [m3, m5] ([] ++ [b1, b2]) (0 + ([b1, b2] : List Bx).length) 8 true 2 = [] by rfl] at hS
  obtain ⟨A2, c2, e1⟩ := Kd.R_slice (hS.rows _ (List.mem_cons_self ..)).1
  dsimp only [List.length_cons, List.length_nil] at e1
  subst e1
  replace X := Aside0.mk hS
  clear hS
  dsimp only
  go_wp2_with fail
  refine (X.out.give 8 1 true (by decide)).mono ?_
  rintro e w9 ⟨vd, v3, rfl, hS⟩
  obtain ⟨bx, hbx⟩ : ∃ bx, (([] : List Bx) ++ [b1, b2] ++ []) = bx := ⟨_, rfl⟩
  rw [show gcode 1 1 [m3, m5] ([] ++ [b1, b2] ++ []) 8 1 = 0 by rfl]
  rw [show given 1 1 [m3, m5] ([] ++ [b1, b2] ++ []) (0 + ([b1, b2] : List Bx).length + ([] : List Bx).length) 8 true 1 = [b3] by rfl] at hS
  replace hS : HS w w9 p b g 1 1 [m3, m5] v3 [b1, b2, b3] 3 _ := hS
  obtain ⟨A3, c3, e1⟩ := Kd.R_slice (hS.rows _ (List.mem_cons_self ..)).1
  dsimp only [List.length_cons, List.length_nil] at e1
  subst e1
  replace X := Aside0.mk hS
  clear hS hbx bx
  dsimp only
  go_wp2_with fail
  refine (X.out.room 5 (by decide)).mono ?_
  rintro e w10 ⟨rfl, hb⟩
  rw [show roomN 1 1 [m3, m5] [b1, b2, b3] 5 = 0 by rfl]
  replace X := Aside0.mk (X.out.same hb)
  clear hb
  dsimp only
  go_wp2_with fail
  refine (X.out.take 7 1 false).mono ?_
  rintro e w11 ⟨vi, v4, rfl, hS⟩
  rw [show tcode [b1, b2, b3] 7 false 1 = 0 by rfl]
  rw [show taken [b1, b2, b3] 7 false 1 = [b2] by rfl] at hS
  rw [show leftN [b1, b2, b3] [b2] = [b1, b3] by rfl] at hS
  obtain ⟨A4, c4, e1⟩ := Kd.R_slice (hS.rows _ (List.mem_cons_self ..)).1
  dsimp only [List.length_cons, List.length_nil] at e1
  subst e1
  replace X := Aside0.mk hS
  clear hS
  dsimp only
  go_wp2_with fail
  refine (X.out.lose 5 (by decide)).mono ?_
  rintro e w12 ⟨vk, v5, rfl, hS⟩
  rw [show (lost [m3, m5] 5).2 = 0 by rfl]
  rw [show onN [b1, b3] 5 = [b3] by rfl, show offN [b1, b3] 5 = [b1] by rfl, show less [m3, m5] 5 = [m3] by rfl] at hS
  obtain ⟨A5, c5, e1⟩ := Kd.R_slice (hS.rows _ (List.mem_cons_self ..)).1
  dsimp only [List.length_cons, List.length_nil] at e1
  subst e1
  replace X := Aside0.mk hS
  clear hS
  dsimp only
  go_wp2_with fail
  refine (X.out.take 7 2 false).mono ?_
  rintro e w13 ⟨vm, v6, rfl, hS⟩
  rw [show tcode [b1] 7 false 2 = 7 by rfl]
  rw [show taken [b1] 7 false 2 = [] by rfl, left_nil] at hS
  obtain ⟨A6, c6, e1⟩ := Kd.R_slice (hS.rows _ (List.mem_cons_self ..)).1
  dsimp only [List.length_cons, List.length_nil] at e1
  subst e1
  replace X := Aside0.mk hS
  clear hS
  dsimp only
  go_wp2_with fail
  refine (X.out.give 0 1 false (by decide)).mono ?_
  rintro e w14 ⟨vn, v7, rfl, hS⟩
  rw [show gcode 1 1 [m3] [b1] 0 1 = 2 by rfl]
  rw [show given 1 1 [m3] [b1] 3 0 false 1 = [] by rfl, List.append_nil] at hS
  obtain ⟨A7, c7, e1⟩ := Kd.R_slice (hS.rows _ (List.mem_cons_self ..)).1
  dsimp only [List.length_cons, List.length_nil] at e1
  subst e1
  replace X := Aside0.mk hS
  clear hS
  dsimp only
  go_upto_region 14 with (fail)
  have R4 : RB w14 w.heap.size (.slice A4 1 c4) [b2] := (X.out.rows (.slice A4 1 c4, [b2]) (by simp)).1
  have R5 : RB w14 w.heap.size (.slice A5 1 c5) [b3] := (X.out.rows (.slice A5 1 c5, [b3]) (by simp)).1
  have CR : Aside0 (RB w14 w.heap.size (.slice A1 2 c1) [b1, b2]) := ⟨(X.out.rows (.slice A1 2 c1, [b1, b2]) (by simp)).1⟩
  have DR : Aside0 (RB w14 w.heap.size (.slice A3 1 c3) [b3]) := ⟨(X.out.rows (.slice A3 1 c3, [b3]) (by simp)).1⟩
  obtain ⟨a4, rfl, i0, _⟩ := PLedLib.at_T113 (Kd.R_reads' R4).2.2 0 (by decide) (by decide)
  obtain ⟨a5, rfl, j0, _⟩ := PLedLib.at_T113 (Kd.R_reads' R5).2.2 0 (by decide) (by decide)
  have add0 : ∀ a : Addr, a.add ((0 : Int).toNat * 4) = a := fun a => by cases a; rfl
  rw [add0] at i0 j0
  have IJ : Aside0 (w14.cell? a4 = some (.int .u32 2) ∧ w14.cell? a5 = some (.int .u32 3)) := ⟨i0, j0⟩
  have CT : Aside0 (∀ w', Below w14.heap.size w14 w' → Kd.C PLedLib.k113 w' A1 1 [b1]) := ⟨fun w' h => Kd.C_take (m := 1) (Kd.C_below (Kd.R_reads' CR.out).2.2 h) (show 1 ≤ [b1, b2].length by decide)⟩
  have LC : Aside0 (1 ≤ c1) := ⟨Nat.le_trans (show 1 ≤ 2 by decide) (Kd.R_reads' CR.out).2.1⟩
  clear R4 R5 add0
  clear i0 j0
  obtain ⟨ii, hii, _, hsz, _⟩ := info_parts PLedLib.info113
  have hcut := cut_to (P := Try.prog) 108 113 .i64 Try.underlying108 hii A1 2 c1 1 (by decide) (by decide) (Kd.R_reads' CR.out).2.1
  simp only [Int.toNat_one] at hcut
  clear hii hsz
  simp only [List.append_eq, List.cons_append, List.nil_append]
  refine XInv.region_tab [] [[], [0], [1], [2], [3, 2], [2, 4], [5, 2], [6], [6], [6], [8, 9, 6], [7, 10, 6, 6], [6, 11], [12, 11], [13], [14, 13], [13, 15], [16, 13], [17], [18, 17], [17, 19], [20, 17], [21], [22, 21], [21, 23], [24, 21], [25], [25], [27, 25], [26, 28, 25, 25], [25, 29], [30, 29], [31], [32, 31], [31, 33], [34, 31], [35], [36, 35], [35, 37], [38, 35], [39], [40, 39], [41, 39], [39, 42], [43, 39], [44], [45, 44], [46, 44], [47, 44], [48, 44], [44, 49], [50, 44], [51], [52, 51], [51, 53], [54, 51], [55], [56, 55], [57, 55], [55, 58], [59, 55], [60], [61, 60], [62, 60], [63, 60], [64, 60], [60, 65], [66, 60], [67], [68, 67], [67, 69], [70, 67], [71], [72, 71, 71], [71], [74, 71], [73, 75, 73, 71], [71, 76], [77, 76], [78], [79, 78], [78, 80], [81, 78], [82], [83, 82], [82, 84], [85, 82, 0, 1, 2, 3, 4, 5, 6, 7, 8, 9, 10, 11, 12, 13, 14, 15, 16, 17, 18, 19, 20, 21, 22, 23, 24, 25, 26, 27, 28, 29, 30, 31, 32, 33, 34, 35, 36, 37, 38, 39, 40, 41, 42, 43, 44, 45, 46, 47, 48, 49, 50, 51, 52, 53, 54, 55, 56, 57, 58, 59, 60, 61, 62, 63, 64, 65, 66, 67, 68, 69, 70, 71, 72, 73, 74, 75, 76, 77, 78, 79, 80, 81, 82, 83, 84, 85]] (fun bq jq => match jq with
      | 0 => .int .i64 0
      | 1 => .bool true
      | 2 => .bool true
      | 3 => .int .i64 0
      | 4 => .bool true
      | 5 => .bool true
      | 6 => .bool true
      | 7 => .slice A1 2 c1
      | 8 => .agg #[.int .u32 1, .int .u32 3, .int .u32 7, .bool false]
      | 9 => .agg #[.int .u32 2, .int .u32 5, .int .u32 7, .bool false]
      | 10 => .slice (some ⟨bq.1, 0, none⟩) 2 2
      | 11 => .bool true
      | 12 => .bool true
      | 13 => .bool true
      | 14 => .int .i64 0
      | 15 => .bool true
      | 16 => .bool true
      | 17 => .bool true
      | 18 => .int .i64 1
      | 19 => .bool true
      | 20 => .bool true
      | 21 => .bool true
      | 22 => .int .i64 6
      | 23 => .bool true
      | 24 => .bool true
      | 25 => .bool true
      | 26 => .slice A3 1 c3
      | 27 => .agg #[.int .u32 3, .int .u32 5, .int .u32 8, .bool true]
      | 28 => .slice (some ⟨bq.2.1, 0, none⟩) 1 1
      | 29 => .bool true
      | 30 => .bool true
      | 31 => .bool true
      | 32 => .int .i64 0
      | 33 => .bool true
      | 34 => .bool true
      | 35 => .bool true
      | 36 => .int .i64 0
      | 37 => .bool true
      | 38 => .bool true
      | 39 => .bool true
      | 40 => .slice (some a4) 1 c4
      | 41 => .int .i64 1
      | 42 => .bool true
      | 43 => .bool true
      | 44 => .bool true
      | 45 => .slice (some a4) 1 c4
      | 46 => .pointer (some a4)
      | 47 => .pointer (some a4)
      | 48 => .int .u32 2
      | 49 => .bool true
      | 50 => .bool true
      | 51 => .bool true
      | 52 => .int .i64 0
      | 53 => .bool true
      | 54 => .bool true
      | 55 => .bool true
      | 56 => .slice (some a5) 1 c5
      | 57 => .int .i64 1
      | 58 => .bool true
      | 59 => .bool true
      | 60 => .bool true
      | 61 => .slice (some a5) 1 c5
      | 62 => .pointer (some a5)
      | 63 => .pointer (some a5)
      | 64 => .int .u32 3
      | 65 => .bool true
      | 66 => .bool true
      | 67 => .bool true
      | 68 => .int .i64 0
      | 69 => .bool true
      | 70 => .bool true
      | 71 => .bool true
      | 72 => .pointer (some ⟨p, 0, none⟩)
      | 73 => .slice bq.2.2.1 1 bq.2.2.2
      | 74 => .slice A1 2 c1
      | 75 => .slice A1 1 c1
      | 76 => .bool true
      | 77 => .bool true
      | 78 => .bool true
      | 79 => .int .i64 7
      | 80 => .bool true
      | 81 => .bool true
      | 82 => .bool true
      | 83 => .int .i64 2
      | 84 => .bool true
      | 85 => .bool true
      | 86 => .bool true
      | _ => undef)
      (fun bq l w' => if l 73 = true then (Below w14.heap.size w14 w' ∧ Kd.C PLedLib.k113 w' bq.2.2.1 1 [b1] ∧ 1 ≤ bq.2.2.2) else if l 28 = true then (Below w14.heap.size w14 w' ∧ Kd.C PLedLib.k113 w' (some ⟨bq.2.1, 0, none⟩) 1 [b3]) else if l 10 = true then (Below w14.heap.size w14 w' ∧ Kd.C PLedLib.k113 w' (some ⟨bq.1, 0, none⟩) 2 [b1, b2]) else Below w14.heap.size w14 w')
      (by kernel_rfl) rfl (by kernel_rfl) (by kernel_rfl) (by kernel_rfl) ⟨((0, 0, none, 0) : Nat × Nat × Option Addr × Nat), (by rw [if_neg (by simp)]; rw [if_neg (by simp)]; rw [if_neg (by simp)]; exact below_drew (Below.refl _ _))⟩ ?_ ?_
  · refine cs87 _ ?_ ?_ ?_ ?_ ?_ ?_ ?_ ?_ ?_ ?_ ?_ ?_ ?_ ?_ ?_ ?_ ?_ ?_ ?_ ?_ ?_ ?_ ?_ ?_ ?_ ?_ ?_ ?_ ?_ ?_ ?_ ?_ ?_ ?_ ?_ ?_ ?_ ?_ ?_ ?_ ?_ ?_ ?_ ?_ ?_ ?_ ?_ ?_ ?_ ?_ ?_ ?_ ?_ ?_ ?_ ?_ ?_ ?_ ?_ ?_ ?_ ?_ ?_ ?_ ?_ ?_ ?_ ?_ ?_ ?_ ?_ ?_ ?_ ?_ ?_ ?_ ?_ ?_ ?_ ?_ ?_ ?_ ?_ ?_ ?_ ?_ ?_
    all_goals intro hds oi hoi bq lb w' hW hlb hcl hneed hclo
    all_goals simp only [List.getElem?_toArray, List.getElem?_cons_succ, List.getElem?_cons_zero, Option.some.injEq] at hoi
    all_goals subst hoi
    · refine XInv.yes_tab [] (by kernel_rfl) ?_
      have hs0 : lb 10 = false := (Bool.eq_false_or_eq_true (lb 10)).elim (fun h => absurd (hclo 1 0 (by decide) (hclo 2 1 (by decide) (hclo 6 2 (by decide) (hclo 10 6 (by decide) h (by kernel_rfl)) (by kernel_rfl)) (by kernel_rfl)) (by kernel_rfl)) (by rw [hlb]; decide)) id
      have hs1 : lb 28 = false := (Bool.eq_false_or_eq_true (lb 28)).elim (fun h => absurd (hclo 1 0 (by decide) (hclo 2 1 (by decide) (hclo 6 2 (by decide) (hclo 11 6 (by decide) (hclo 13 11 (by decide) (hclo 17 13 (by decide) (hclo 21 17 (by decide) (hclo 25 21 (by decide) (hclo 28 25 (by decide) h (by kernel_rfl)) (by kernel_rfl)) (by kernel_rfl)) (by kernel_rfl)) (by kernel_rfl)) (by kernel_rfl)) (by kernel_rfl)) (by kernel_rfl)) (by kernel_rfl)) (by rw [hlb]; decide)) id
      have hs2 : lb 73 = false := (Bool.eq_false_or_eq_true (lb 73)).elim (fun h => absurd (hclo 1 0 (by decide) (hclo 2 1 (by decide) (hclo 6 2 (by decide) (hclo 11 6 (by decide) (hclo 13 11 (by decide) (hclo 17 13 (by decide) (hclo 21 17 (by decide) (hclo 25 21 (by decide) (hclo 29 25 (by decide) (hclo 31 29 (by decide) (hclo 35 31 (by decide) (hclo 39 35 (by decide) (hclo 44 39 (by decide) (hclo 51 44 (by decide) (hclo 55 51 (by decide) (hclo 60 55 (by decide) (hclo 67 60 (by decide) (hclo 71 67 (by decide) (hclo 73 71 (by decide) h (by kernel_rfl)) (by kernel_rfl)) (by kernel_rfl)) (by kernel_rfl)) (by kernel_rfl)) (by kernel_rfl)) (by kernel_rfl)) (by kernel_rfl)) (by kernel_rfl)) (by kernel_rfl)) (by kernel_rfl)) (by kernel_rfl)) (by kernel_rfl)) (by kernel_rfl)) (by kernel_rfl)) (by kernel_rfl)) (by kernel_rfl)) (by kernel_rfl)) (by kernel_rfl)) (by rw [hlb]; decide)) id
      rw [if_neg (by rw [hs2]; decide)] at hW
      rw [if_neg (by rw [hs1]; decide)] at hW
      rw [if_neg (by rw [hs0]; decide)] at hW
      have hB := hW
      clear hcl hneed hclo
      intro Q2 K2 hK2
      simp only [XInv.puts, XPrint.pw]
      go_simp
      exact hK2.out (.int .i64 0) w' ⟨bq, rfl, (by intros; first | rfl | trivial), (by rw [if_neg (by simp [XInv.up, hs2])]; rw [if_neg (by simp [XInv.up, hs1])]; rw [if_neg (by simp [XInv.up, hs0])]; exact hW)⟩
    · refine XInv.yes_tab [(77, 0)] (by kernel_rfl) ?_
      have hs0 : lb 10 = false := (Bool.eq_false_or_eq_true (lb 10)).elim (fun h => absurd (hclo 2 1 (by decide) (hclo 6 2 (by decide) (hclo 10 6 (by decide) h (by kernel_rfl)) (by kernel_rfl)) (by kernel_rfl)) (by rw [hlb]; decide)) id
      have hs1 : lb 28 = false := (Bool.eq_false_or_eq_true (lb 28)).elim (fun h => absurd (hclo 2 1 (by decide) (hclo 6 2 (by decide) (hclo 11 6 (by decide) (hclo 13 11 (by decide) (hclo 17 13 (by decide) (hclo 21 17 (by decide) (hclo 25 21 (by decide) (hclo 28 25 (by decide) h (by kernel_rfl)) (by kernel_rfl)) (by kernel_rfl)) (by kernel_rfl)) (by kernel_rfl)) (by kernel_rfl)) (by kernel_rfl)) (by kernel_rfl)) (by rw [hlb]; decide)) id
      have hs2 : lb 73 = false := (Bool.eq_false_or_eq_true (lb 73)).elim (fun h => absurd (hclo 2 1 (by decide) (hclo 6 2 (by decide) (hclo 11 6 (by decide) (hclo 13 11 (by decide) (hclo 17 13 (by decide) (hclo 21 17 (by decide) (hclo 25 21 (by decide) (hclo 29 25 (by decide) (hclo 31 29 (by decide) (hclo 35 31 (by decide) (hclo 39 35 (by decide) (hclo 44 39 (by decide) (hclo 51 44 (by decide) (hclo 55 51 (by decide) (hclo 60 55 (by decide) (hclo 67 60 (by decide) (hclo 71 67 (by decide) (hclo 73 71 (by decide) h (by kernel_rfl)) (by kernel_rfl)) (by kernel_rfl)) (by kernel_rfl)) (by kernel_rfl)) (by kernel_rfl)) (by kernel_rfl)) (by kernel_rfl)) (by kernel_rfl)) (by kernel_rfl)) (by kernel_rfl)) (by kernel_rfl)) (by kernel_rfl)) (by kernel_rfl)) (by kernel_rfl)) (by kernel_rfl)) (by kernel_rfl)) (by kernel_rfl)) (by rw [hlb]; decide)) id
      rw [if_neg (by rw [hs2]; decide)] at hW
      rw [if_neg (by rw [hs1]; decide)] at hW
      rw [if_neg (by rw [hs0]; decide)] at hW
      have hB := hW
      clear hcl hneed hclo
      intro Q2 K2 hK2
      simp only [XInv.puts, XPrint.pw]
      go_simp
      exact hK2.out (.bool true) w' ⟨bq, rfl, (by intros; first | rfl | trivial), (by rw [if_neg (by simp [XInv.up, hs2])]; rw [if_neg (by simp [XInv.up, hs1])]; rw [if_neg (by simp [XInv.up, hs0])]; exact hW)⟩
    · refine XInv.yes_tab [(78, 1)] (by kernel_rfl) ?_
      have hs0 : lb 10 = false := (Bool.eq_false_or_eq_true (lb 10)).elim (fun h => absurd (hclo 6 2 (by decide) (hclo 10 6 (by decide) h (by kernel_rfl)) (by kernel_rfl)) (by rw [hlb]; decide)) id
      have hs1 : lb 28 = false := (Bool.eq_false_or_eq_true (lb 28)).elim (fun h => absurd (hclo 6 2 (by decide) (hclo 11 6 (by decide) (hclo 13 11 (by decide) (hclo 17 13 (by decide) (hclo 21 17 (by decide) (hclo 25 21 (by decide) (hclo 28 25 (by decide) h (by kernel_rfl)) (by kernel_rfl)) (by kernel_rfl)) (by kernel_rfl)) (by kernel_rfl)) (by kernel_rfl)) (by kernel_rfl)) (by rw [hlb]; decide)) id
      have hs2 : lb 73 = false := (Bool.eq_false_or_eq_true (lb 73)).elim (fun h => absurd (hclo 6 2 (by decide) (hclo 11 6 (by decide) (hclo 13 11 (by decide) (hclo 17 13 (by decide) (hclo 21 17 (by decide) (hclo 25 21 (by decide) (hclo 29 25 (by decide) (hclo 31 29 (by decide) (hclo 35 31 (by decide) (hclo 39 35 (by decide) (hclo 44 39 (by decide) (hclo 51 44 (by decide) (hclo 55 51 (by decide) (hclo 60 55 (by decide) (hclo 67 60 (by decide) (hclo 71 67 (by decide) (hclo 73 71 (by decide) h (by kernel_rfl)) (by kernel_rfl)) (by kernel_rfl)) (by kernel_rfl)) (by kernel_rfl)) (by kernel_rfl)) (by kernel_rfl)) (by kernel_rfl)) (by kernel_rfl)) (by kernel_rfl)) (by kernel_rfl)) (by kernel_rfl)) (by kernel_rfl)) (by kernel_rfl)) (by kernel_rfl)) (by kernel_rfl)) (by kernel_rfl)) (by rw [hlb]; decide)) id
      rw [if_neg (by rw [hs2]; decide)] at hW
      rw [if_neg (by rw [hs1]; decide)] at hW
      rw [if_neg (by rw [hs0]; decide)] at hW
      have hB := hW
      clear hcl hneed hclo
      intro Q2 K2 hK2
      simp only [XInv.puts, XPrint.pw]
      go_simp
      exact hK2.out (.bool true) w' ⟨bq, rfl, (by intros; first | rfl | trivial), (by rw [if_neg (by simp [XInv.up, hs2])]; rw [if_neg (by simp [XInv.up, hs1])]; rw [if_neg (by simp [XInv.up, hs0])]; exact hW)⟩
    · refine XInv.yes_tab [(79, 2)] (by kernel_rfl) ?_
      have hs0 : lb 10 = false := (Bool.eq_false_or_eq_true (lb 10)).elim (fun h => absurd (hclo 4 3 (by decide) (hclo 5 4 (by decide) (hclo 6 5 (by decide) (hclo 10 6 (by decide) h (by kernel_rfl)) (by kernel_rfl)) (by kernel_rfl)) (by kernel_rfl)) (by rw [hlb]; decide)) id
      have hs1 : lb 28 = false := (Bool.eq_false_or_eq_true (lb 28)).elim (fun h => absurd (hclo 4 3 (by decide) (hclo 5 4 (by decide) (hclo 6 5 (by decide) (hclo 11 6 (by decide) (hclo 13 11 (by decide) (hclo 17 13 (by decide) (hclo 21 17 (by decide) (hclo 25 21 (by decide) (hclo 28 25 (by decide) h (by kernel_rfl)) (by kernel_rfl)) (by kernel_rfl)) (by kernel_rfl)) (by kernel_rfl)) (by kernel_rfl)) (by kernel_rfl)) (by kernel_rfl)) (by kernel_rfl)) (by rw [hlb]; decide)) id
      have hs2 : lb 73 = false := (Bool.eq_false_or_eq_true (lb 73)).elim (fun h => absurd (hclo 4 3 (by decide) (hclo 5 4 (by decide) (hclo 6 5 (by decide) (hclo 11 6 (by decide) (hclo 13 11 (by decide) (hclo 17 13 (by decide) (hclo 21 17 (by decide) (hclo 25 21 (by decide) (hclo 29 25 (by decide) (hclo 31 29 (by decide) (hclo 35 31 (by decide) (hclo 39 35 (by decide) (hclo 44 39 (by decide) (hclo 51 44 (by decide) (hclo 55 51 (by decide) (hclo 60 55 (by decide) (hclo 67 60 (by decide) (hclo 71 67 (by decide) (hclo 73 71 (by decide) h (by kernel_rfl)) (by kernel_rfl)) (by kernel_rfl)) (by kernel_rfl)) (by kernel_rfl)) (by kernel_rfl)) (by kernel_rfl)) (by kernel_rfl)) (by kernel_rfl)) (by kernel_rfl)) (by kernel_rfl)) (by kernel_rfl)) (by kernel_rfl)) (by kernel_rfl)) (by kernel_rfl)) (by kernel_rfl)) (by kernel_rfl)) (by kernel_rfl)) (by kernel_rfl)) (by rw [hlb]; decide)) id
      rw [if_neg (by rw [hs2]; decide)] at hW
      rw [if_neg (by rw [hs1]; decide)] at hW
      rw [if_neg (by rw [hs0]; decide)] at hW
      have hB := hW
      clear hcl hneed hclo
      intro Q2 K2 hK2
      simp only [XInv.puts, XPrint.pw]
      go_simp
      exact hK2.out (.int .i64 0) w' ⟨bq, rfl, (by intros; first | rfl | trivial), (by rw [if_neg (by simp [XInv.up, hs2])]; rw [if_neg (by simp [XInv.up, hs1])]; rw [if_neg (by simp [XInv.up, hs0])]; exact hW)⟩
    · refine XInv.yes_tab [(80, 3), (79, 2)] (by kernel_rfl) ?_
      have hs0 : lb 10 = false := (Bool.eq_false_or_eq_true (lb 10)).elim (fun h => absurd (hclo 5 4 (by decide) (hclo 6 5 (by decide) (hclo 10 6 (by decide) h (by kernel_rfl)) (by kernel_rfl)) (by kernel_rfl)) (by rw [hlb]; decide)) id
      have hs1 : lb 28 = false := (Bool.eq_false_or_eq_true (lb 28)).elim (fun h => absurd (hclo 5 4 (by decide) (hclo 6 5 (by decide) (hclo 11 6 (by decide) (hclo 13 11 (by decide) (hclo 17 13 (by decide) (hclo 21 17 (by decide) (hclo 25 21 (by decide) (hclo 28 25 (by decide) h (by kernel_rfl)) (by kernel_rfl)) (by kernel_rfl)) (by kernel_rfl)) (by kernel_rfl)) (by kernel_rfl)) (by kernel_rfl)) (by kernel_rfl)) (by rw [hlb]; decide)) id
      have hs2 : lb 73 = false := (Bool.eq_false_or_eq_true (lb 73)).elim (fun h => absurd (hclo 5 4 (by decide) (hclo 6 5 (by decide) (hclo 11 6 (by decide) (hclo 13 11 (by decide) (hclo 17 13 (by decide) (hclo 21 17 (by decide) (hclo 25 21 (by decide) (hclo 29 25 (by decide) (hclo 31 29 (by decide) (hclo 35 31 (by decide) (hclo 39 35 (by decide) (hclo 44 39 (by decide) (hclo 51 44 (by decide) (hclo 55 51 (by decide) (hclo 60 55 (by decide) (hclo 67 60 (by decide) (hclo 71 67 (by decide) (hclo 73 71 (by decide) h (by kernel_rfl)) (by kernel_rfl)) (by kernel_rfl)) (by kernel_rfl)) (by kernel_rfl)) (by kernel_rfl)) (by kernel_rfl)) (by kernel_rfl)) (by kernel_rfl)) (by kernel_rfl)) (by kernel_rfl)) (by kernel_rfl)) (by kernel_rfl)) (by kernel_rfl)) (by kernel_rfl)) (by kernel_rfl)) (by kernel_rfl)) (by kernel_rfl)) (by rw [hlb]; decide)) id
      rw [if_neg (by rw [hs2]; decide)] at hW
      rw [if_neg (by rw [hs1]; decide)] at hW
      rw [if_neg (by rw [hs0]; decide)] at hW
      have hB := hW
      clear hcl hneed hclo
      intro Q2 K2 hK2
      simp only [XInv.puts, XPrint.pw]
      go_simp
      exact hK2.out (.bool true) w' ⟨bq, rfl, (by intros; first | rfl | trivial), (by rw [if_neg (by simp [XInv.up, hs2])]; rw [if_neg (by simp [XInv.up, hs1])]; rw [if_neg (by simp [XInv.up, hs0])]; exact hW)⟩
    · refine XInv.yes_tab [(81, 4), (79, 2)] (by kernel_rfl) ?_
      have hs0 : lb 10 = false := (Bool.eq_false_or_eq_true (lb 10)).elim (fun h => absurd (hclo 6 5 (by decide) (hclo 10 6 (by decide) h (by kernel_rfl)) (by kernel_rfl)) (by rw [hlb]; decide)) id
      have hs1 : lb 28 = false := (Bool.eq_false_or_eq_true (lb 28)).elim (fun h => absurd (hclo 6 5 (by decide) (hclo 11 6 (by decide) (hclo 13 11 (by decide) (hclo 17 13 (by decide) (hclo 21 17 (by decide) (hclo 25 21 (by decide) (hclo 28 25 (by decide) h (by kernel_rfl)) (by kernel_rfl)) (by kernel_rfl)) (by kernel_rfl)) (by kernel_rfl)) (by kernel_rfl)) (by kernel_rfl)) (by rw [hlb]; decide)) id
      have hs2 : lb 73 = false := (Bool.eq_false_or_eq_true (lb 73)).elim (fun h => absurd (hclo 6 5 (by decide) (hclo 11 6 (by decide) (hclo 13 11 (by decide) (hclo 17 13 (by decide) (hclo 21 17 (by decide) (hclo 25 21 (by decide) (hclo 29 25 (by decide) (hclo 31 29 (by decide) (hclo 35 31 (by decide) (hclo 39 35 (by decide) (hclo 44 39 (by decide) (hclo 51 44 (by decide) (hclo 55 51 (by decide) (hclo 60 55 (by decide) (hclo 67 60 (by decide) (hclo 71 67 (by decide) (hclo 73 71 (by decide) h (by kernel_rfl)) (by kernel_rfl)) (by kernel_rfl)) (by kernel_rfl)) (by kernel_rfl)) (by kernel_rfl)) (by kernel_rfl)) (by kernel_rfl)) (by kernel_rfl)) (by kernel_rfl)) (by kernel_rfl)) (by kernel_rfl)) (by kernel_rfl)) (by kernel_rfl)) (by kernel_rfl)) (by kernel_rfl)) (by kernel_rfl)) (by rw [hlb]; decide)) id
      rw [if_neg (by rw [hs2]; decide)] at hW
      rw [if_neg (by rw [hs1]; decide)] at hW
      rw [if_neg (by rw [hs0]; decide)] at hW
      have hB := hW
      clear hcl hneed hclo
      intro Q2 K2 hK2
      simp only [XInv.puts, XPrint.pw]
      go_simp
      exact hK2.out (.bool true) w' ⟨bq, rfl, (by intros; first | rfl | trivial), (by rw [if_neg (by simp [XInv.up, hs2])]; rw [if_neg (by simp [XInv.up, hs1])]; rw [if_neg (by simp [XInv.up, hs0])]; exact hW)⟩
    · refine XInv.yes_tab [(82, 5), (79, 2)] (by kernel_rfl) ?_
      have hs0 := hcl 10 (by decide) (by kernel_rfl)
      have hs1 : lb 28 = false := (Bool.eq_false_or_eq_true (lb 28)).elim (fun h => absurd (hclo 11 6 (by decide) (hclo 13 11 (by decide) (hclo 17 13 (by decide) (hclo 21 17 (by decide) (hclo 25 21 (by decide) (hclo 28 25 (by decide) h (by kernel_rfl)) (by kernel_rfl)) (by kernel_rfl)) (by kernel_rfl)) (by kernel_rfl)) (by kernel_rfl)) (by rw [hlb]; decide)) id
      have hs2 : lb 73 = false := (Bool.eq_false_or_eq_true (lb 73)).elim (fun h => absurd (hclo 11 6 (by decide) (hclo 13 11 (by decide) (hclo 17 13 (by decide) (hclo 21 17 (by decide) (hclo 25 21 (by decide) (hclo 29 25 (by decide) (hclo 31 29 (by decide) (hclo 35 31 (by decide) (hclo 39 35 (by decide) (hclo 44 39 (by decide) (hclo 51 44 (by decide) (hclo 55 51 (by decide) (hclo 60 55 (by decide) (hclo 67 60 (by decide) (hclo 71 67 (by decide) (hclo 73 71 (by decide) h (by kernel_rfl)) (by kernel_rfl)) (by kernel_rfl)) (by kernel_rfl)) (by kernel_rfl)) (by kernel_rfl)) (by kernel_rfl)) (by kernel_rfl)) (by kernel_rfl)) (by kernel_rfl)) (by kernel_rfl)) (by kernel_rfl)) (by kernel_rfl)) (by kernel_rfl)) (by kernel_rfl)) (by kernel_rfl)) (by rw [hlb]; decide)) id
      rw [if_neg (by rw [hs2]; decide)] at hW
      rw [if_neg (by rw [hs1]; decide)] at hW
      rw [if_neg (by rw [hs0]; decide)] at hW
      have hB := hW
      clear hcl hneed hclo
      intro Q2 K2 hK2
      simp only [XInv.puts, XPrint.pw]
      go_simp
      exact hK2.out (.bool true) w' ⟨bq, rfl, (by intros; first | rfl | trivial), (by rw [if_neg (by simp [XInv.up, hs2])]; rw [if_neg (by simp [XInv.up, hs1])]; rw [if_neg (by simp [XInv.up, hs0])]; exact hW)⟩
    · refine XInv.yes_tab [(83, 6)] (by kernel_rfl) ?_
      have hs1 : lb 28 = false := (Bool.eq_false_or_eq_true (lb 28)).elim (fun h => absurd (hclo 11 7 (by decide) (hclo 13 11 (by decide) (hclo 17 13 (by decide) (hclo 21 17 (by decide) (hclo 25 21 (by decide) (hclo 28 25 (by decide) h (by kernel_rfl)) (by kernel_rfl)) (by kernel_rfl)) (by kernel_rfl)) (by kernel_rfl)) (by kernel_rfl)) (by rw [hlb]; decide)) id
      have hs2 : lb 73 = false := (Bool.eq_false_or_eq_true (lb 73)).elim (fun h => absurd (hclo 11 7 (by decide) (hclo 13 11 (by decide) (hclo 17 13 (by decide) (hclo 21 17 (by decide) (hclo 25 21 (by decide) (hclo 29 25 (by decide) (hclo 31 29 (by decide) (hclo 35 31 (by decide) (hclo 39 35 (by decide) (hclo 44 39 (by decide) (hclo 51 44 (by decide) (hclo 55 51 (by decide) (hclo 60 55 (by decide) (hclo 67 60 (by decide) (hclo 71 67 (by decide) (hclo 73 71 (by decide) h (by kernel_rfl)) (by kernel_rfl)) (by kernel_rfl)) (by kernel_rfl)) (by kernel_rfl)) (by kernel_rfl)) (by kernel_rfl)) (by kernel_rfl)) (by kernel_rfl)) (by kernel_rfl)) (by kernel_rfl)) (by kernel_rfl)) (by kernel_rfl)) (by kernel_rfl)) (by kernel_rfl)) (by kernel_rfl)) (by rw [hlb]; decide)) id
      cases hs0 : lb 10
      case false =>
        rw [if_neg (by rw [hs2]; decide)] at hW
        rw [if_neg (by rw [hs1]; decide)] at hW
        rw [if_neg (by rw [hs0]; decide)] at hW
        have hB := hW
        clear hcl hneed hclo
        intro Q2 K2 hK2
        simp only [XInv.puts, XPrint.pw]
        go_simp
        exact hK2.out (.slice A1 2 c1) w' ⟨bq, rfl, (by intros; first | rfl | trivial), (by rw [if_neg (by simp [XInv.up, hs2])]; rw [if_neg (by simp [XInv.up, hs1])]; rw [if_neg (by simp [XInv.up, hs0])]; exact hW)⟩
      case true =>
        rw [if_neg (by rw [hs2]; decide)] at hW
        rw [if_neg (by rw [hs1]; decide)] at hW
        rw [if_pos hs0] at hW
        have hB := hW.1
        clear hcl hneed hclo
        intro Q2 K2 hK2
        simp only [XInv.puts, XPrint.pw]
        go_simp
        exact hK2.out (.slice A1 2 c1) w' ⟨bq, rfl, (by intros; first | rfl | trivial), (by rw [if_neg (by simp [XInv.up, hs2])]; rw [if_neg (by simp [XInv.up, hs1])]; rw [if_pos (by simp [XInv.up, hs0])]; exact hW)⟩
    · refine XInv.yes_tab [(83, 6)] (by kernel_rfl) ?_
      have hs0 := hcl 10 (by decide) (by kernel_rfl)
      have hs1 : lb 28 = false := (Bool.eq_false_or_eq_true (lb 28)).elim (fun h => absurd (hclo 10 8 (by decide) (hclo 11 10 (by decide) (hclo 13 11 (by decide) (hclo 17 13 (by decide) (hclo 21 17 (by decide) (hclo 25 21 (by decide) (hclo 28 25 (by decide) h (by kernel_rfl)) (by kernel_rfl)) (by kernel_rfl)) (by kernel_rfl)) (by kernel_rfl)) (by kernel_rfl)) (by kernel_rfl)) (by rw [hlb]; decide)) id
      have hs2 : lb 73 = false := (Bool.eq_false_or_eq_true (lb 73)).elim (fun h => absurd (hclo 10 8 (by decide) (hclo 11 10 (by decide) (hclo 13 11 (by decide) (hclo 17 13 (by decide) (hclo 21 17 (by decide) (hclo 25 21 (by decide) (hclo 29 25 (by decide) (hclo 31 29 (by decide) (hclo 35 31 (by decide) (hclo 39 35 (by decide) (hclo 44 39 (by decide) (hclo 51 44 (by decide) (hclo 55 51 (by decide) (hclo 60 55 (by decide) (hclo 67 60 (by decide) (hclo 71 67 (by decide) (hclo 73 71 (by decide) h (by kernel_rfl)) (by kernel_rfl)) (by kernel_rfl)) (by kernel_rfl)) (by kernel_rfl)) (by kernel_rfl)) (by kernel_rfl)) (by kernel_rfl)) (by kernel_rfl)) (by kernel_rfl)) (by kernel_rfl)) (by kernel_rfl)) (by kernel_rfl)) (by kernel_rfl)) (by kernel_rfl)) (by kernel_rfl)) (by kernel_rfl)) (by rw [hlb]; decide)) id
      rw [if_neg (by rw [hs2]; decide)] at hW
      rw [if_neg (by rw [hs1]; decide)] at hW
      rw [if_neg (by rw [hs0]; decide)] at hW
      have hB := hW
      clear hcl hneed hclo
      intro Q2 K2 hK2
      simp only [XInv.puts, XPrint.pw]
      go_simp
      exact hK2.out (.agg #[.int .u32 1, .int .u32 3, .int .u32 7, .bool false]) w' ⟨bq, rfl, (by intros; first | rfl | trivial), (by rw [if_neg (by simp [XInv.up, hs2])]; rw [if_neg (by simp [XInv.up, hs1])]; rw [if_neg (by simp [XInv.up, hs0])]; exact hW)⟩
    · refine XInv.yes_tab [(83, 6)] (by kernel_rfl) ?_
      have hs0 := hcl 10 (by decide) (by kernel_rfl)
      have hs1 : lb 28 = false := (Bool.eq_false_or_eq_true (lb 28)).elim (fun h => absurd (hclo 10 9 (by decide) (hclo 11 10 (by decide) (hclo 13 11 (by decide) (hclo 17 13 (by decide) (hclo 21 17 (by decide) (hclo 25 21 (by decide) (hclo 28 25 (by decide) h (by kernel_rfl)) (by kernel_rfl)) (by kernel_rfl)) (by kernel_rfl)) (by kernel_rfl)) (by kernel_rfl)) (by kernel_rfl)) (by rw [hlb]; decide)) id
      have hs2 : lb 73 = false := (Bool.eq_false_or_eq_true (lb 73)).elim (fun h => absurd (hclo 10 9 (by decide) (hclo 11 10 (by decide) (hclo 13 11 (by decide) (hclo 17 13 (by decide) (hclo 21 17 (by decide) (hclo 25 21 (by decide) (hclo 29 25 (by decide) (hclo 31 29 (by decide) (hclo 35 31 (by decide) (hclo 39 35 (by decide) (hclo 44 39 (by decide) (hclo 51 44 (by decide) (hclo 55 51 (by decide) (hclo 60 55 (by decide) (hclo 67 60 (by decide) (hclo 71 67 (by decide) (hclo 73 71 (by decide) h (by kernel_rfl)) (by kernel_rfl)) (by kernel_rfl)) (by kernel_rfl)) (by kernel_rfl)) (by kernel_rfl)) (by kernel_rfl)) (by kernel_rfl)) (by kernel_rfl)) (by kernel_rfl)) (by kernel_rfl)) (by kernel_rfl)) (by kernel_rfl)) (by kernel_rfl)) (by kernel_rfl)) (by kernel_rfl)) (by kernel_rfl)) (by rw [hlb]; decide)) id
      rw [if_neg (by rw [hs2]; decide)] at hW
      rw [if_neg (by rw [hs1]; decide)] at hW
      rw [if_neg (by rw [hs0]; decide)] at hW
      have hB := hW
      clear hcl hneed hclo
      intro Q2 K2 hK2
      simp only [XInv.puts, XPrint.pw]
      go_simp
      exact hK2.out (.agg #[.int .u32 2, .int .u32 5, .int .u32 7, .bool false]) w' ⟨bq, rfl, (by intros; first | rfl | trivial), (by rw [if_neg (by simp [XInv.up, hs2])]; rw [if_neg (by simp [XInv.up, hs1])]; rw [if_neg (by simp [XInv.up, hs0])]; exact hW)⟩
    · refine XInv.yes_tab [(86, 9), (85, 8), (83, 6)] (by kernel_rfl) ?_
      have hs0 := hlb
      have hs1 : lb 28 = false := (Bool.eq_false_or_eq_true (lb 28)).elim (fun h => absurd (hclo 11 10 (by decide) (hclo 13 11 (by decide) (hclo 17 13 (by decide) (hclo 21 17 (by decide) (hclo 25 21 (by decide) (hclo 28 25 (by decide) h (by kernel_rfl)) (by kernel_rfl)) (by kernel_rfl)) (by kernel_rfl)) (by kernel_rfl)) (by kernel_rfl)) (by rw [hlb]; decide)) id
      have hs2 : lb 73 = false := (Bool.eq_false_or_eq_true (lb 73)).elim (fun h => absurd (hclo 11 10 (by decide) (hclo 13 11 (by decide) (hclo 17 13 (by decide) (hclo 21 17 (by decide) (hclo 25 21 (by decide) (hclo 29 25 (by decide) (hclo 31 29 (by decide) (hclo 35 31 (by decide) (hclo 39 35 (by decide) (hclo 44 39 (by decide) (hclo 51 44 (by decide) (hclo 55 51 (by decide) (hclo 60 55 (by decide) (hclo 67 60 (by decide) (hclo 71 67 (by decide) (hclo 73 71 (by decide) h (by kernel_rfl)) (by kernel_rfl)) (by kernel_rfl)) (by kernel_rfl)) (by kernel_rfl)) (by kernel_rfl)) (by kernel_rfl)) (by kernel_rfl)) (by kernel_rfl)) (by kernel_rfl)) (by kernel_rfl)) (by kernel_rfl)) (by kernel_rfl)) (by kernel_rfl)) (by kernel_rfl)) (by kernel_rfl)) (by rw [hlb]; decide)) id
      rw [if_neg (by rw [hs2]; decide)] at hW
      rw [if_neg (by rw [hs1]; decide)] at hW
      rw [if_neg (by rw [hs0]; decide)] at hW
      have hB := hW
      clear hcl hneed hclo
      intro Q2 K2 hK2
      simp only [XInv.puts, XPrint.pw]
      go_simp
      exact hK2.out (.slice (some ⟨w'.heap.size, 0, none⟩) 2 2) _ ⟨(w'.heap.size, bq.2), rfl, (cs87 _ (fun _ => rfl) (fun _ => rfl) (fun _ => rfl) (fun _ => rfl) (fun _ => rfl) (fun _ => rfl) (fun _ => rfl) (fun _ => rfl) (fun _ => rfl) (fun _ => rfl) (fun hlj => absurd (hlb.symm.trans hlj) (by decide)) (fun _ => rfl) (fun _ => rfl) (fun _ => rfl) (fun _ => rfl) (fun _ => rfl) (fun _ => rfl) (fun _ => rfl) (fun _ => rfl) (fun _ => rfl) (fun _ => rfl) (fun _ => rfl) (fun _ => rfl) (fun _ => rfl) (fun _ => rfl) (fun _ => rfl) (fun _ => rfl) (fun _ => rfl) (fun _ => rfl) (fun _ => rfl) (fun _ => rfl) (fun _ => rfl) (fun _ => rfl) (fun _ => rfl) (fun _ => rfl) (fun _ => rfl) (fun _ => rfl) (fun _ => rfl) (fun _ => rfl) (fun _ => rfl) (fun _ => rfl) (fun _ => rfl) (fun _ => rfl) (fun _ => rfl) (fun _ => rfl) (fun _ => rfl) (fun _ => rfl) (fun _ => rfl) (fun _ => rfl) (fun _ => rfl) (fun _ => rfl) (fun _ => rfl) (fun _ => rfl) (fun _ => rfl) (fun _ => rfl) (fun _ => rfl) (fun _ => rfl) (fun _ => rfl) (fun _ => rfl) (fun _ => rfl) (fun _ => rfl) (fun _ => rfl) (fun _ => rfl) (fun _ => rfl) (fun _ => rfl) (fun _ => rfl) (fun _ => rfl) (fun _ => rfl) (fun _ => rfl) (fun _ => rfl) (fun _ => rfl) (fun _ => rfl) (fun _ => rfl) (fun _ => rfl) (fun _ => rfl) (fun _ => rfl) (fun _ => rfl) (fun _ => rfl) (fun _ => rfl) (fun _ => rfl) (fun _ => rfl) (fun _ => rfl) (fun _ => rfl) (fun _ => rfl) (fun _ => rfl) (fun _ => rfl) (fun _ => rfl)), (by rw [if_neg (by simp [XInv.up, hs2])]; rw [if_neg (by simp [XInv.up, hs1])]; rw [if_pos (by simp [XInv.up, hs0])]; exact ⟨below_alloc hB _, lit2 w' b1 b2⟩)⟩
    · refine XInv.yes_tab [(87, 10), (84, 7), (83, 6)] (by kernel_rfl) ?_
      have hs0 := hneed 10 (by kernel_rfl)
      have hs1 : lb 28 = false := (Bool.eq_false_or_eq_true (lb 28)).elim (fun h => absurd (hclo 13 11 (by decide) (hclo 17 13 (by decide) (hclo 21 17 (by decide) (hclo 25 21 (by decide) (hclo 28 25 (by decide) h (by kernel_rfl)) (by kernel_rfl)) (by kernel_rfl)) (by kernel_rfl)) (by kernel_rfl)) (by rw [hlb]; decide)) id
      have hs2 : lb 73 = false := (Bool.eq_false_or_eq_true (lb 73)).elim (fun h => absurd (hclo 13 11 (by decide) (hclo 17 13 (by decide) (hclo 21 17 (by decide) (hclo 25 21 (by decide) (hclo 29 25 (by decide) (hclo 31 29 (by decide) (hclo 35 31 (by decide) (hclo 39 35 (by decide) (hclo 44 39 (by decide) (hclo 51 44 (by decide) (hclo 55 51 (by decide) (hclo 60 55 (by decide) (hclo 67 60 (by decide) (hclo 71 67 (by decide) (hclo 73 71 (by decide) h (by kernel_rfl)) (by kernel_rfl)) (by kernel_rfl)) (by kernel_rfl)) (by kernel_rfl)) (by kernel_rfl)) (by kernel_rfl)) (by kernel_rfl)) (by kernel_rfl)) (by kernel_rfl)) (by kernel_rfl)) (by kernel_rfl)) (by kernel_rfl)) (by kernel_rfl)) (by kernel_rfl)) (by rw [hlb]; decide)) id
      rw [if_neg (by rw [hs2]; decide)] at hW
      rw [if_neg (by rw [hs1]; decide)] at hW
      rw [if_pos hs0] at hW
      have hB := hW.1
      clear hcl hneed hclo
      intro Q2 K2 hK2
      simp only [XInv.puts, XPrint.pw]
      go_simp
      go_at_call 102
      (with_reducible refine (same_ok [b1, b2] 2 rfl 4 (by decide +kernel) _ _ _ _ _ (Kd.C_below (Kd.R_reads' CR.out).2.2 hB) hW.2 (Kd.R_reads' CR.out).2.1 (Nat.le_refl _)).mono ?_)
      rintro e wz ⟨rfl, hb⟩
      exact hK2.out (.bool true) wz ⟨bq, rfl, (by intros; first | rfl | trivial), (by rw [if_neg (by simp [XInv.up, hs2])]; rw [if_neg (by simp [XInv.up, hs1])]; rw [if_pos (by simp [XInv.up, hs0])]; exact ⟨below_step hB hb, Kd.C_below hW.2 hb⟩)⟩
    · refine XInv.yes_tab [(88, 11), (83, 6)] (by kernel_rfl) ?_
      have hs0 := (hclo 11 10 (by decide) (hneed 11 (by kernel_rfl)) (by kernel_rfl))
      have hs1 : lb 28 = false := (Bool.eq_false_or_eq_true (lb 28)).elim (fun h => absurd (hclo 13 12 (by decide) (hclo 17 13 (by decide) (hclo 21 17 (by decide) (hclo 25 21 (by decide) (hclo 28 25 (by decide) h (by kernel_rfl)) (by kernel_rfl)) (by kernel_rfl)) (by kernel_rfl)) (by kernel_rfl)) (by rw [hlb]; decide)) id
      have hs2 : lb 73 = false := (Bool.eq_false_or_eq_true (lb 73)).elim (fun h => absurd (hclo 13 12 (by decide) (hclo 17 13 (by decide) (hclo 21 17 (by decide) (hclo 25 21 (by decide) (hclo 29 25 (by decide) (hclo 31 29 (by decide) (hclo 35 31 (by decide) (hclo 39 35 (by decide) (hclo 44 39 (by decide) (hclo 51 44 (by decide) (hclo 55 51 (by decide) (hclo 60 55 (by decide) (hclo 67 60 (by decide) (hclo 71 67 (by decide) (hclo 73 71 (by decide) h (by kernel_rfl)) (by kernel_rfl)) (by kernel_rfl)) (by kernel_rfl)) (by kernel_rfl)) (by kernel_rfl)) (by kernel_rfl)) (by kernel_rfl)) (by kernel_rfl)) (by kernel_rfl)) (by kernel_rfl)) (by kernel_rfl)) (by kernel_rfl)) (by kernel_rfl)) (by kernel_rfl)) (by rw [hlb]; decide)) id
      rw [if_neg (by rw [hs2]; decide)] at hW
      rw [if_neg (by rw [hs1]; decide)] at hW
      rw [if_pos hs0] at hW
      have hB := hW.1
      clear hcl hneed hclo
      intro Q2 K2 hK2
      simp only [XInv.puts, XPrint.pw]
      go_simp
      exact hK2.out (.bool true) w' ⟨bq, rfl, (by intros; first | rfl | trivial), (by rw [if_neg (by simp [XInv.up, hs2])]; rw [if_neg (by simp [XInv.up, hs1])]; rw [if_pos (by simp [XInv.up, hs0])]; exact hW)⟩
    · refine XInv.yes_tab [(89, 12), (88, 11)] (by kernel_rfl) ?_
      have hs0 := (hclo 11 10 (by decide) (hneed 11 (by kernel_rfl)) (by kernel_rfl))
      have hs1 : lb 28 = false := (Bool.eq_false_or_eq_true (lb 28)).elim (fun h => absurd (hclo 17 13 (by decide) (hclo 21 17 (by decide) (hclo 25 21 (by decide) (hclo 28 25 (by decide) h (by kernel_rfl)) (by kernel_rfl)) (by kernel_rfl)) (by kernel_rfl)) (by rw [hlb]; decide)) id
      have hs2 : lb 73 = false := (Bool.eq_false_or_eq_true (lb 73)).elim (fun h => absurd (hclo 17 13 (by decide) (hclo 21 17 (by decide) (hclo 25 21 (by decide) (hclo 29 25 (by decide) (hclo 31 29 (by decide) (hclo 35 31 (by decide) (hclo 39 35 (by decide) (hclo 44 39 (by decide) (hclo 51 44 (by decide) (hclo 55 51 (by decide) (hclo 60 55 (by decide) (hclo 67 60 (by decide) (hclo 71 67 (by decide) (hclo 73 71 (by decide) h (by kernel_rfl)) (by kernel_rfl)) (by kernel_rfl)) (by kernel_rfl)) (by kernel_rfl)) (by kernel_rfl)) (by kernel_rfl)) (by kernel_rfl)) (by kernel_rfl)) (by kernel_rfl)) (by kernel_rfl)) (by kernel_rfl)) (by kernel_rfl)) (by kernel_rfl)) (by rw [hlb]; decide)) id
      rw [if_neg (by rw [hs2]; decide)] at hW
      rw [if_neg (by rw [hs1]; decide)] at hW
      rw [if_pos hs0] at hW
      have hB := hW.1
      clear hcl hneed hclo
      intro Q2 K2 hK2
      simp only [XInv.puts, XPrint.pw]
      go_simp
      exact hK2.out (.bool true) w' ⟨bq, rfl, (by intros; first | rfl | trivial), (by rw [if_neg (by simp [XInv.up, hs2])]; rw [if_neg (by simp [XInv.up, hs1])]; rw [if_pos (by simp [XInv.up, hs0])]; exact hW)⟩
    · refine XInv.yes_tab [(90, 13)] (by kernel_rfl) ?_
      have hs0 := (hclo 11 10 (by decide) (hclo 13 11 (by decide) (hneed 13 (by kernel_rfl)) (by kernel_rfl)) (by kernel_rfl))
      have hs1 : lb 28 = false := (Bool.eq_false_or_eq_true (lb 28)).elim (fun h => absurd (hclo 15 14 (by decide) (hclo 16 15 (by decide) (hclo 17 16 (by decide) (hclo 21 17 (by decide) (hclo 25 21 (by decide) (hclo 28 25 (by decide) h (by kernel_rfl)) (by kernel_rfl)) (by kernel_rfl)) (by kernel_rfl)) (by kernel_rfl)) (by kernel_rfl)) (by rw [hlb]; decide)) id
      have hs2 : lb 73 = false := (Bool.eq_false_or_eq_true (lb 73)).elim (fun h => absurd (hclo 15 14 (by decide) (hclo 16 15 (by decide) (hclo 17 16 (by decide) (hclo 21 17 (by decide) (hclo 25 21 (by decide) (hclo 29 25 (by decide) (hclo 31 29 (by decide) (hclo 35 31 (by decide) (hclo 39 35 (by decide) (hclo 44 39 (by decide) (hclo 51 44 (by decide) (hclo 55 51 (by decide) (hclo 60 55 (by decide) (hclo 67 60 (by decide) (hclo 71 67 (by decide) (hclo 73 71 (by decide) h (by kernel_rfl)) (by kernel_rfl)) (by kernel_rfl)) (by kernel_rfl)) (by kernel_rfl)) (by kernel_rfl)) (by kernel_rfl)) (by kernel_rfl)) (by kernel_rfl)) (by kernel_rfl)) (by kernel_rfl)) (by kernel_rfl)) (by kernel_rfl)) (by kernel_rfl)) (by kernel_rfl)) (by kernel_rfl)) (by rw [hlb]; decide)) id
      rw [if_neg (by rw [hs2]; decide)] at hW
      rw [if_neg (by rw [hs1]; decide)] at hW
      rw [if_pos hs0] at hW
      have hB := hW.1
      clear hcl hneed hclo
      intro Q2 K2 hK2
      simp only [XInv.puts, XPrint.pw]
      go_simp
      exact hK2.out (.int .i64 0) w' ⟨bq, rfl, (by intros; first | rfl | trivial), (by rw [if_neg (by simp [XInv.up, hs2])]; rw [if_neg (by simp [XInv.up, hs1])]; rw [if_pos (by simp [XInv.up, hs0])]; exact hW)⟩
    · refine XInv.yes_tab [(91, 14), (90, 13)] (by kernel_rfl) ?_
      have hs0 := (hclo 11 10 (by decide) (hclo 13 11 (by decide) (hneed 13 (by kernel_rfl)) (by kernel_rfl)) (by kernel_rfl))
      have hs1 : lb 28 = false := (Bool.eq_false_or_eq_true (lb 28)).elim (fun h => absurd (hclo 16 15 (by decide) (hclo 17 16 (by decide) (hclo 21 17 (by decide) (hclo 25 21 (by decide) (hclo 28 25 (by decide) h (by kernel_rfl)) (by kernel_rfl)) (by kernel_rfl)) (by kernel_rfl)) (by kernel_rfl)) (by rw [hlb]; decide)) id
      have hs2 : lb 73 = false := (Bool.eq_false_or_eq_true (lb 73)).elim (fun h => absurd (hclo 16 15 (by decide) (hclo 17 16 (by decide) (hclo 21 17 (by decide) (hclo 25 21 (by decide) (hclo 29 25 (by decide) (hclo 31 29 (by decide) (hclo 35 31 (by decide) (hclo 39 35 (by decide) (hclo 44 39 (by decide) (hclo 51 44 (by decide) (hclo 55 51 (by decide) (hclo 60 55 (by decide) (hclo 67 60 (by decide) (hclo 71 67 (by decide) (hclo 73 71 (by decide) h (by kernel_rfl)) (by kernel_rfl)) (by kernel_rfl)) (by kernel_rfl)) (by kernel_rfl)) (by kernel_rfl)) (by kernel_rfl)) (by kernel_rfl)) (by kernel_rfl)) (by kernel_rfl)) (by kernel_rfl)) (by kernel_rfl)) (by kernel_rfl)) (by kernel_rfl)) (by kernel_rfl)) (by rw [hlb]; decide)) id
      rw [if_neg (by rw [hs2]; decide)] at hW
      rw [if_neg (by rw [hs1]; decide)] at hW
      rw [if_pos hs0] at hW
      have hB := hW.1
      clear hcl hneed hclo
      intro Q2 K2 hK2
      simp only [XInv.puts, XPrint.pw]
      go_simp
      exact hK2.out (.bool true) w' ⟨bq, rfl, (by intros; first | rfl | trivial), (by rw [if_neg (by simp [XInv.up, hs2])]; rw [if_neg (by simp [XInv.up, hs1])]; rw [if_pos (by simp [XInv.up, hs0])]; exact hW)⟩
    · refine XInv.yes_tab [(92, 15), (90, 13)] (by kernel_rfl) ?_
      have hs0 := (hclo 11 10 (by decide) (hclo 13 11 (by decide) (hneed 13 (by kernel_rfl)) (by kernel_rfl)) (by kernel_rfl))
      have hs1 : lb 28 = false := (Bool.eq_false_or_eq_true (lb 28)).elim (fun h => absurd (hclo 17 16 (by decide) (hclo 21 17 (by decide) (hclo 25 21 (by decide) (hclo 28 25 (by decide) h (by kernel_rfl)) (by kernel_rfl)) (by kernel_rfl)) (by kernel_rfl)) (by rw [hlb]; decide)) id
      have hs2 : lb 73 = false := (Bool.eq_false_or_eq_true (lb 73)).elim (fun h => absurd (hclo 17 16 (by decide) (hclo 21 17 (by decide) (hclo 25 21 (by decide) (hclo 29 25 (by decide) (hclo 31 29 (by decide) (hclo 35 31 (by decide) (hclo 39 35 (by decide) (hclo 44 39 (by decide) (hclo 51 44 (by decide) (hclo 55 51 (by decide) (hclo 60 55 (by decide) (hclo 67 60 (by decide) (hclo 71 67 (by decide) (hclo 73 71 (by decide) h (by kernel_rfl)) (by kernel_rfl)) (by kernel_rfl)) (by kernel_rfl)) (by kernel_rfl)) (by kernel_rfl)) (by kernel_rfl)) (by kernel_rfl)) (by kernel_rfl)) (by kernel_rfl)) (by kernel_rfl)) (by kernel_rfl)) (by kernel_rfl)) (by kernel_rfl)) (by rw [hlb]; decide)) id
      rw [if_neg (by rw [hs2]; decide)] at hW
      rw [if_neg (by rw [hs1]; decide)] at hW
      rw [if_pos hs0] at hW
      have hB := hW.1
      clear hcl hneed hclo
      intro Q2 K2 hK2
      simp only [XInv.puts, XPrint.pw]
      go_simp
      exact hK2.out (.bool true) w' ⟨bq, rfl, (by intros; first | rfl | trivial), (by rw [if_neg (by simp [XInv.up, hs2])]; rw [if_neg (by simp [XInv.up, hs1])]; rw [if_pos (by simp [XInv.up, hs0])]; exact hW)⟩
    · refine XInv.yes_tab [(93, 16), (90, 13)] (by kernel_rfl) ?_
      have hs0 := (hclo 11 10 (by decide) (hclo 13 11 (by decide) (hneed 13 (by kernel_rfl)) (by kernel_rfl)) (by kernel_rfl))
      have hs1 : lb 28 = false := (Bool.eq_false_or_eq_true (lb 28)).elim (fun h => absurd (hclo 21 17 (by decide) (hclo 25 21 (by decide) (hclo 28 25 (by decide) h (by kernel_rfl)) (by kernel_rfl)) (by kernel_rfl)) (by rw [hlb]; decide)) id
      have hs2 : lb 73 = false := (Bool.eq_false_or_eq_true (lb 73)).elim (fun h => absurd (hclo 21 17 (by decide) (hclo 25 21 (by decide) (hclo 29 25 (by decide) (hclo 31 29 (by decide) (hclo 35 31 (by decide) (hclo 39 35 (by decide) (hclo 44 39 (by decide) (hclo 51 44 (by decide) (hclo 55 51 (by decide) (hclo 60 55 (by decide) (hclo 67 60 (by decide) (hclo 71 67 (by decide) (hclo 73 71 (by decide) h (by kernel_rfl)) (by kernel_rfl)) (by kernel_rfl)) (by kernel_rfl)) (by kernel_rfl)) (by kernel_rfl)) (by kernel_rfl)) (by kernel_rfl)) (by kernel_rfl)) (by kernel_rfl)) (by kernel_rfl)) (by kernel_rfl)) (by kernel_rfl)) (by rw [hlb]; decide)) id
      rw [if_neg (by rw [hs2]; decide)] at hW
      rw [if_neg (by rw [hs1]; decide)] at hW
      rw [if_pos hs0] at hW
      have hB := hW.1
      clear hcl hneed hclo
      intro Q2 K2 hK2
      simp only [XInv.puts, XPrint.pw]
      go_simp
      exact hK2.out (.bool true) w' ⟨bq, rfl, (by intros; first | rfl | trivial), (by rw [if_neg (by simp [XInv.up, hs2])]; rw [if_neg (by simp [XInv.up, hs1])]; rw [if_pos (by simp [XInv.up, hs0])]; exact hW)⟩
    · refine XInv.yes_tab [(94, 17)] (by kernel_rfl) ?_
      have hs0 := (hclo 11 10 (by decide) (hclo 13 11 (by decide) (hclo 17 13 (by decide) (hneed 17 (by kernel_rfl)) (by kernel_rfl)) (by kernel_rfl)) (by kernel_rfl))
      have hs1 : lb 28 = false := (Bool.eq_false_or_eq_true (lb 28)).elim (fun h => absurd (hclo 19 18 (by decide) (hclo 20 19 (by decide) (hclo 21 20 (by decide) (hclo 25 21 (by decide) (hclo 28 25 (by decide) h (by kernel_rfl)) (by kernel_rfl)) (by kernel_rfl)) (by kernel_rfl)) (by kernel_rfl)) (by rw [hlb]; decide)) id
      have hs2 : lb 73 = false := (Bool.eq_false_or_eq_true (lb 73)).elim (fun h => absurd (hclo 19 18 (by decide) (hclo 20 19 (by decide) (hclo 21 20 (by decide) (hclo 25 21 (by decide) (hclo 29 25 (by decide) (hclo 31 29 (by decide) (hclo 35 31 (by decide) (hclo 39 35 (by decide) (hclo 44 39 (by decide) (hclo 51 44 (by decide) (hclo 55 51 (by decide) (hclo 60 55 (by decide) (hclo 67 60 (by decide) (hclo 71 67 (by decide) (hclo 73 71 (by decide) h (by kernel_rfl)) (by kernel_rfl)) (by kernel_rfl)) (by kernel_rfl)) (by kernel_rfl)) (by kernel_rfl)) (by kernel_rfl)) (by kernel_rfl)) (by kernel_rfl)) (by kernel_rfl)) (by kernel_rfl)) (by kernel_rfl)) (by kernel_rfl)) (by kernel_rfl)) (by kernel_rfl)) (by rw [hlb]; decide)) id
      rw [if_neg (by rw [hs2]; decide)] at hW
      rw [if_neg (by rw [hs1]; decide)] at hW
      rw [if_pos hs0] at hW
      have hB := hW.1
      clear hcl hneed hclo
      intro Q2 K2 hK2
      simp only [XInv.puts, XPrint.pw]
      go_simp
      exact hK2.out (.int .i64 1) w' ⟨bq, rfl, (by intros; first | rfl | trivial), (by rw [if_neg (by simp [XInv.up, hs2])]; rw [if_neg (by simp [XInv.up, hs1])]; rw [if_pos (by simp [XInv.up, hs0])]; exact hW)⟩
    · refine XInv.yes_tab [(95, 18), (94, 17)] (by kernel_rfl) ?_
      have hs0 := (hclo 11 10 (by decide) (hclo 13 11 (by decide) (hclo 17 13 (by decide) (hneed 17 (by kernel_rfl)) (by kernel_rfl)) (by kernel_rfl)) (by kernel_rfl))
      have hs1 : lb 28 = false := (Bool.eq_false_or_eq_true (lb 28)).elim (fun h => absurd (hclo 20 19 (by decide) (hclo 21 20 (by decide) (hclo 25 21 (by decide) (hclo 28 25 (by decide) h (by kernel_rfl)) (by kernel_rfl)) (by kernel_rfl)) (by kernel_rfl)) (by rw [hlb]; decide)) id
      have hs2 : lb 73 = false := (Bool.eq_false_or_eq_true (lb 73)).elim (fun h => absurd (hclo 20 19 (by decide) (hclo 21 20 (by decide) (hclo 25 21 (by decide) (hclo 29 25 (by decide) (hclo 31 29 (by decide) (hclo 35 31 (by decide) (hclo 39 35 (by decide) (hclo 44 39 (by decide) (hclo 51 44 (by decide) (hclo 55 51 (by decide) (hclo 60 55 (by decide) (hclo 67 60 (by decide) (hclo 71 67 (by decide) (hclo 73 71 (by decide) h (by kernel_rfl)) (by kernel_rfl)) (by kernel_rfl)) (by kernel_rfl)) (by kernel_rfl)) (by kernel_rfl)) (by kernel_rfl)) (by kernel_rfl)) (by kernel_rfl)) (by kernel_rfl)) (by kernel_rfl)) (by kernel_rfl)) (by kernel_rfl)) (by kernel_rfl)) (by rw [hlb]; decide)) id
      rw [if_neg (by rw [hs2]; decide)] at hW
      rw [if_neg (by rw [hs1]; decide)] at hW
      rw [if_pos hs0] at hW
      have hB := hW.1
      clear hcl hneed hclo
      intro Q2 K2 hK2
      simp only [XInv.puts, XPrint.pw]
      go_simp
      exact hK2.out (.bool true) w' ⟨bq, rfl, (by intros; first | rfl | trivial), (by rw [if_neg (by simp [XInv.up, hs2])]; rw [if_neg (by simp [XInv.up, hs1])]; rw [if_pos (by simp [XInv.up, hs0])]; exact hW)⟩
    · refine XInv.yes_tab [(96, 19), (94, 17)] (by kernel_rfl) ?_
      have hs0 := (hclo 11 10 (by decide) (hclo 13 11 (by decide) (hclo 17 13 (by decide) (hneed 17 (by kernel_rfl)) (by kernel_rfl)) (by kernel_rfl)) (by kernel_rfl))
      have hs1 : lb 28 = false := (Bool.eq_false_or_eq_true (lb 28)).elim (fun h => absurd (hclo 21 20 (by decide) (hclo 25 21 (by decide) (hclo 28 25 (by decide) h (by kernel_rfl)) (by kernel_rfl)) (by kernel_rfl)) (by rw [hlb]; decide)) id
      have hs2 : lb 73 = false := (Bool.eq_false_or_eq_true (lb 73)).elim (fun h => absurd (hclo 21 20 (by decide) (hclo 25 21 (by decide) (hclo 29 25 (by decide) (hclo 31 29 (by decide) (hclo 35 31 (by decide) (hclo 39 35 (by decide) (hclo 44 39 (by decide) (hclo 51 44 (by decide) (hclo 55 51 (by decide) (hclo 60 55 (by decide) (hclo 67 60 (by decide) (hclo 71 67 (by decide) (hclo 73 71 (by decide) h (by kernel_rfl)) (by kernel_rfl)) (by kernel_rfl)) (by kernel_rfl)) (by kernel_rfl)) (by kernel_rfl)) (by kernel_rfl)) (by kernel_rfl)) (by kernel_rfl)) (by kernel_rfl)) (by kernel_rfl)) (by kernel_rfl)) (by kernel_rfl)) (by rw [hlb]; decide)) id
      rw [if_neg (by rw [hs2]; decide)] at hW
      rw [if_neg (by rw [hs1]; decide)] at hW
      rw [if_pos hs0] at hW
      have hB := hW.1
      clear hcl hneed hclo
      intro Q2 K2 hK2
      simp only [XInv.puts, XPrint.pw]
      go_simp
      exact hK2.out (.bool true) w' ⟨bq, rfl, (by intros; first | rfl | trivial), (by rw [if_neg (by simp [XInv.up, hs2])]; rw [if_neg (by simp [XInv.up, hs1])]; rw [if_pos (by simp [XInv.up, hs0])]; exact hW)⟩
    · refine XInv.yes_tab [(97, 20), (94, 17)] (by kernel_rfl) ?_
      have hs0 := (hclo 11 10 (by decide) (hclo 13 11 (by decide) (hclo 17 13 (by decide) (hneed 17 (by kernel_rfl)) (by kernel_rfl)) (by kernel_rfl)) (by kernel_rfl))
      have hs1 : lb 28 = false := (Bool.eq_false_or_eq_true (lb 28)).elim (fun h => absurd (hclo 25 21 (by decide) (hclo 28 25 (by decide) h (by kernel_rfl)) (by kernel_rfl)) (by rw [hlb]; decide)) id
      have hs2 : lb 73 = false := (Bool.eq_false_or_eq_true (lb 73)).elim (fun h => absurd (hclo 25 21 (by decide) (hclo 29 25 (by decide) (hclo 31 29 (by decide) (hclo 35 31 (by decide) (hclo 39 35 (by decide) (hclo 44 39 (by decide) (hclo 51 44 (by decide) (hclo 55 51 (by decide) (hclo 60 55 (by decide) (hclo 67 60 (by decide) (hclo 71 67 (by decide) (hclo 73 71 (by decide) h (by kernel_rfl)) (by kernel_rfl)) (by kernel_rfl)) (by kernel_rfl)) (by kernel_rfl)) (by kernel_rfl)) (by kernel_rfl)) (by kernel_rfl)) (by kernel_rfl)) (by kernel_rfl)) (by kernel_rfl)) (by kernel_rfl)) (by rw [hlb]; decide)) id
      rw [if_neg (by rw [hs2]; decide)] at hW
      rw [if_neg (by rw [hs1]; decide)] at hW
      rw [if_pos hs0] at hW
      have hB := hW.1
      clear hcl hneed hclo
      intro Q2 K2 hK2
      simp only [XInv.puts, XPrint.pw]
      go_simp
      exact hK2.out (.bool true) w' ⟨bq, rfl, (by intros; first | rfl | trivial), (by rw [if_neg (by simp [XInv.up, hs2])]; rw [if_neg (by simp [XInv.up, hs1])]; rw [if_pos (by simp [XInv.up, hs0])]; exact hW)⟩
    · refine XInv.yes_tab [(98, 21)] (by kernel_rfl) ?_
      have hs0 := (hclo 11 10 (by decide) (hclo 13 11 (by decide) (hclo 17 13 (by decide) (hclo 21 17 (by decide) (hneed 21 (by kernel_rfl)) (by kernel_rfl)) (by kernel_rfl)) (by kernel_rfl)) (by kernel_rfl))
      have hs1 : lb 28 = false := (Bool.eq_false_or_eq_true (lb 28)).elim (fun h => absurd (hclo 23 22 (by decide) (hclo 24 23 (by decide) (hclo 25 24 (by decide) (hclo 28 25 (by decide) h (by kernel_rfl)) (by kernel_rfl)) (by kernel_rfl)) (by kernel_rfl)) (by rw [hlb]; decide)) id
      have hs2 : lb 73 = false := (Bool.eq_false_or_eq_true (lb 73)).elim (fun h => absurd (hclo 23 22 (by decide) (hclo 24 23 (by decide) (hclo 25 24 (by decide) (hclo 29 25 (by decide) (hclo 31 29 (by decide) (hclo 35 31 (by decide) (hclo 39 35 (by decide) (hclo 44 39 (by decide) (hclo 51 44 (by decide) (hclo 55 51 (by decide) (hclo 60 55 (by decide) (hclo 67 60 (by decide) (hclo 71 67 (by decide) (hclo 73 71 (by decide) h (by kernel_rfl)) (by kernel_rfl)) (by kernel_rfl)) (by kernel_rfl)) (by kernel_rfl)) (by kernel_rfl)) (by kernel_rfl)) (by kernel_rfl)) (by kernel_rfl)) (by kernel_rfl)) (by kernel_rfl)) (by kernel_rfl)) (by kernel_rfl)) (by kernel_rfl)) (by rw [hlb]; decide)) id
      rw [if_neg (by rw [hs2]; decide)] at hW
      rw [if_neg (by rw [hs1]; decide)] at hW
      rw [if_pos hs0] at hW
      have hB := hW.1
      clear hcl hneed hclo
      intro Q2 K2 hK2
      simp only [XInv.puts, XPrint.pw]
      go_simp
      exact hK2.out (.int .i64 6) w' ⟨bq, rfl, (by intros; first | rfl | trivial), (by rw [if_neg (by simp [XInv.up, hs2])]; rw [if_neg (by simp [XInv.up, hs1])]; rw [if_pos (by simp [XInv.up, hs0])]; exact hW)⟩
    · refine XInv.yes_tab [(99, 22), (98, 21)] (by kernel_rfl) ?_
      have hs0 := (hclo 11 10 (by decide) (hclo 13 11 (by decide) (hclo 17 13 (by decide) (hclo 21 17 (by decide) (hneed 21 (by kernel_rfl)) (by kernel_rfl)) (by kernel_rfl)) (by kernel_rfl)) (by kernel_rfl))
      have hs1 : lb 28 = false := (Bool.eq_false_or_eq_true (lb 28)).elim (fun h => absurd (hclo 24 23 (by decide) (hclo 25 24 (by decide) (hclo 28 25 (by decide) h (by kernel_rfl)) (by kernel_rfl)) (by kernel_rfl)) (by rw [hlb]; decide)) id
      have hs2 : lb 73 = false := (Bool.eq_false_or_eq_true (lb 73)).elim (fun h => absurd (hclo 24 23 (by decide) (hclo 25 24 (by decide) (hclo 29 25 (by decide) (hclo 31 29 (by decide) (hclo 35 31 (by decide) (hclo 39 35 (by decide) (hclo 44 39 (by decide) (hclo 51 44 (by decide) (hclo 55 51 (by decide) (hclo 60 55 (by decide) (hclo 67 60 (by decide) (hclo 71 67 (by decide) (hclo 73 71 (by decide) h (by kernel_rfl)) (by kernel_rfl)) (by kernel_rfl)) (by kernel_rfl)) (by kernel_rfl)) (by kernel_rfl)) (by kernel_rfl)) (by kernel_rfl)) (by kernel_rfl)) (by kernel_rfl)) (by kernel_rfl)) (by kernel_rfl)) (by kernel_rfl)) (by rw [hlb]; decide)) id
      rw [if_neg (by rw [hs2]; decide)] at hW
      rw [if_neg (by rw [hs1]; decide)] at hW
      rw [if_pos hs0] at hW
      have hB := hW.1
      clear hcl hneed hclo
      intro Q2 K2 hK2
      simp only [XInv.puts, XPrint.pw]
      go_simp
      exact hK2.out (.bool true) w' ⟨bq, rfl, (by intros; first | rfl | trivial), (by rw [if_neg (by simp [XInv.up, hs2])]; rw [if_neg (by simp [XInv.up, hs1])]; rw [if_pos (by simp [XInv.up, hs0])]; exact hW)⟩
    · refine XInv.yes_tab [(100, 23), (98, 21)] (by kernel_rfl) ?_
      have hs0 := (hclo 11 10 (by decide) (hclo 13 11 (by decide) (hclo 17 13 (by decide) (hclo 21 17 (by decide) (hneed 21 (by kernel_rfl)) (by kernel_rfl)) (by kernel_rfl)) (by kernel_rfl)) (by kernel_rfl))
      have hs1 : lb 28 = false := (Bool.eq_false_or_eq_true (lb 28)).elim (fun h => absurd (hclo 25 24 (by decide) (hclo 28 25 (by decide) h (by kernel_rfl)) (by kernel_rfl)) (by rw [hlb]; decide)) id
      have hs2 : lb 73 = false := (Bool.eq_false_or_eq_true (lb 73)).elim (fun h => absurd (hclo 25 24 (by decide) (hclo 29 25 (by decide) (hclo 31 29 (by decide) (hclo 35 31 (by decide) (hclo 39 35 (by decide) (hclo 44 39 (by decide) (hclo 51 44 (by decide) (hclo 55 51 (by decide) (hclo 60 55 (by decide) (hclo 67 60 (by decide) (hclo 71 67 (by decide) (hclo 73 71 (by decide) h (by kernel_rfl)) (by kernel_rfl)) (by kernel_rfl)) (by kernel_rfl)) (by kernel_rfl)) (by kernel_rfl)) (by kernel_rfl)) (by kernel_rfl)) (by kernel_rfl)) (by kernel_rfl)) (by kernel_rfl)) (by kernel_rfl)) (by rw [hlb]; decide)) id
      rw [if_neg (by rw [hs2]; decide)] at hW
      rw [if_neg (by rw [hs1]; decide)] at hW
      rw [if_pos hs0] at hW
      have hB := hW.1
      clear hcl hneed hclo
      intro Q2 K2 hK2
      simp only [XInv.puts, XPrint.pw]
      go_simp
      exact hK2.out (.bool true) w' ⟨bq, rfl, (by intros; first | rfl | trivial), (by rw [if_neg (by simp [XInv.up, hs2])]; rw [if_neg (by simp [XInv.up, hs1])]; rw [if_pos (by simp [XInv.up, hs0])]; exact hW)⟩
    · refine XInv.yes_tab [(101, 24), (98, 21)] (by kernel_rfl) ?_
      have hs0 := (hclo 11 10 (by decide) (hclo 13 11 (by decide) (hclo 17 13 (by decide) (hclo 21 17 (by decide) (hneed 21 (by kernel_rfl)) (by kernel_rfl)) (by kernel_rfl)) (by kernel_rfl)) (by kernel_rfl))
      have hs1 := hcl 28 (by decide) (by kernel_rfl)
      have hs2 : lb 73 = false := (Bool.eq_false_or_eq_true (lb 73)).elim (fun h => absurd (hclo 29 25 (by decide) (hclo 31 29 (by decide) (hclo 35 31 (by decide) (hclo 39 35 (by decide) (hclo 44 39 (by decide) (hclo 51 44 (by decide) (hclo 55 51 (by decide) (hclo 60 55 (by decide) (hclo 67 60 (by decide) (hclo 71 67 (by decide) (hclo 73 71 (by decide) h (by kernel_rfl)) (by kernel_rfl)) (by kernel_rfl)) (by kernel_rfl)) (by kernel_rfl)) (by kernel_rfl)) (by kernel_rfl)) (by kernel_rfl)) (by kernel_rfl)) (by kernel_rfl)) (by kernel_rfl)) (by rw [hlb]; decide)) id
      rw [if_neg (by rw [hs2]; decide)] at hW
      rw [if_neg (by rw [hs1]; decide)] at hW
      rw [if_pos hs0] at hW
      have hB := hW.1
      clear hcl hneed hclo
      intro Q2 K2 hK2
      simp only [XInv.puts, XPrint.pw]
      go_simp
      exact hK2.out (.bool true) w' ⟨bq, rfl, (by intros; first | rfl | trivial), (by rw [if_neg (by simp [XInv.up, hs2])]; rw [if_neg (by simp [XInv.up, hs1])]; rw [if_pos (by simp [XInv.up, hs0])]; exact hW)⟩
    · refine XInv.yes_tab [(102, 25)] (by kernel_rfl) ?_
      have hs0 := (hclo 11 10 (by decide) (hclo 13 11 (by decide) (hclo 17 13 (by decide) (hclo 21 17 (by decide) (hclo 25 21 (by decide) (hneed 25 (by kernel_rfl)) (by kernel_rfl)) (by kernel_rfl)) (by kernel_rfl)) (by kernel_rfl)) (by kernel_rfl))
      have hs2 : lb 73 = false := (Bool.eq_false_or_eq_true (lb 73)).elim (fun h => absurd (hclo 29 26 (by decide) (hclo 31 29 (by decide) (hclo 35 31 (by decide) (hclo 39 35 (by decide) (hclo 44 39 (by decide) (hclo 51 44 (by decide) (hclo 55 51 (by decide) (hclo 60 55 (by decide) (hclo 67 60 (by decide) (hclo 71 67 (by decide) (hclo 73 71 (by decide) h (by kernel_rfl)) (by kernel_rfl)) (by kernel_rfl)) (by kernel_rfl)) (by kernel_rfl)) (by kernel_rfl)) (by kernel_rfl)) (by kernel_rfl)) (by kernel_rfl)) (by kernel_rfl)) (by kernel_rfl)) (by rw [hlb]; decide)) id
      cases hs1 : lb 28
      case false =>
        rw [if_neg (by rw [hs2]; decide)] at hW
        rw [if_neg (by rw [hs1]; decide)] at hW
        rw [if_pos hs0] at hW
        have hB := hW.1
        clear hcl hneed hclo
        intro Q2 K2 hK2
        simp only [XInv.puts, XPrint.pw]
        go_simp
        exact hK2.out (.slice A3 1 c3) w' ⟨bq, rfl, (by intros; first | rfl | trivial), (by rw [if_neg (by simp [XInv.up, hs2])]; rw [if_neg (by simp [XInv.up, hs1])]; rw [if_pos (by simp [XInv.up, hs0])]; exact hW)⟩
      case true =>
        rw [if_neg (by rw [hs2]; decide)] at hW
        rw [if_pos hs1] at hW
        have hB := hW.1
        clear hcl hneed hclo
        intro Q2 K2 hK2
        simp only [XInv.puts, XPrint.pw]
        go_simp
        exact hK2.out (.slice A3 1 c3) w' ⟨bq, rfl, (by intros; first | rfl | trivial), (by rw [if_neg (by simp [XInv.up, hs2])]; rw [if_pos (by simp [XInv.up, hs1])]; exact hW)⟩
    · refine XInv.yes_tab [(102, 25)] (by kernel_rfl) ?_
      have hs0 := (hclo 11 10 (by decide) (hclo 13 11 (by decide) (hclo 17 13 (by decide) (hclo 21 17 (by decide) (hclo 25 21 (by decide) (hneed 25 (by kernel_rfl)) (by kernel_rfl)) (by kernel_rfl)) (by kernel_rfl)) (by kernel_rfl)) (by kernel_rfl))
      have hs1 := hcl 28 (by decide) (by kernel_rfl)
      have hs2 : lb 73 = false := (Bool.eq_false_or_eq_true (lb 73)).elim (fun h => absurd (hclo 28 27 (by decide) (hclo 29 28 (by decide) (hclo 31 29 (by decide) (hclo 35 31 (by decide) (hclo 39 35 (by decide) (hclo 44 39 (by decide) (hclo 51 44 (by decide) (hclo 55 51 (by decide) (hclo 60 55 (by decide) (hclo 67 60 (by decide) (hclo 71 67 (by decide) (hclo 73 71 (by decide) h (by kernel_rfl)) (by kernel_rfl)) (by kernel_rfl)) (by kernel_rfl)) (by kernel_rfl)) (by kernel_rfl)) (by kernel_rfl)) (by kernel_rfl)) (by kernel_rfl)) (by kernel_rfl)) (by kernel_rfl)) (by kernel_rfl)) (by rw [hlb]; decide)) id
      rw [if_neg (by rw [hs2]; decide)] at hW
      rw [if_neg (by rw [hs1]; decide)] at hW
      rw [if_pos hs0] at hW
      have hB := hW.1
      clear hcl hneed hclo
      intro Q2 K2 hK2
      simp only [XInv.puts, XPrint.pw]
      go_simp
      exact hK2.out (.agg #[.int .u32 3, .int .u32 5, .int .u32 8, .bool true]) w' ⟨bq, rfl, (by intros; first | rfl | trivial), (by rw [if_neg (by simp [XInv.up, hs2])]; rw [if_neg (by simp [XInv.up, hs1])]; rw [if_pos (by simp [XInv.up, hs0])]; exact hW)⟩
    · refine XInv.yes_tab [(104, 27), (102, 25)] (by kernel_rfl) ?_
      have hs0 := (hclo 11 10 (by decide) (hclo 13 11 (by decide) (hclo 17 13 (by decide) (hclo 21 17 (by decide) (hclo 25 21 (by decide) (hneed 25 (by kernel_rfl)) (by kernel_rfl)) (by kernel_rfl)) (by kernel_rfl)) (by kernel_rfl)) (by kernel_rfl))
      have hs1 := hlb
      have hs2 : lb 73 = false := (Bool.eq_false_or_eq_true (lb 73)).elim (fun h => absurd (hclo 29 28 (by decide) (hclo 31 29 (by decide) (hclo 35 31 (by decide) (hclo 39 35 (by decide) (hclo 44 39 (by decide) (hclo 51 44 (by decide) (hclo 55 51 (by decide) (hclo 60 55 (by decide) (hclo 67 60 (by decide) (hclo 71 67 (by decide) (hclo 73 71 (by decide) h (by kernel_rfl)) (by kernel_rfl)) (by kernel_rfl)) (by kernel_rfl)) (by kernel_rfl)) (by kernel_rfl)) (by kernel_rfl)) (by kernel_rfl)) (by kernel_rfl)) (by kernel_rfl)) (by kernel_rfl)) (by rw [hlb]; decide)) id
      rw [if_neg (by rw [hs2]; decide)] at hW
      rw [if_neg (by rw [hs1]; decide)] at hW
      rw [if_pos hs0] at hW
      have hB := hW.1
      clear hcl hneed hclo
      intro Q2 K2 hK2
      simp only [XInv.puts, XPrint.pw]
      go_simp
      exact hK2.out (.slice (some ⟨w'.heap.size, 0, none⟩) 1 1) _ ⟨(bq.1, w'.heap.size, bq.2.2), rfl, (cs87 _ (fun _ => rfl) (fun _ => rfl) (fun _ => rfl) (fun _ => rfl) (fun _ => rfl) (fun _ => rfl) (fun _ => rfl) (fun _ => rfl) (fun _ => rfl) (fun _ => rfl) (fun _ => rfl) (fun _ => rfl) (fun _ => rfl) (fun _ => rfl) (fun _ => rfl) (fun _ => rfl) (fun _ => rfl) (fun _ => rfl) (fun _ => rfl) (fun _ => rfl) (fun _ => rfl) (fun _ => rfl) (fun _ => rfl) (fun _ => rfl) (fun _ => rfl) (fun _ => rfl) (fun _ => rfl) (fun _ => rfl) (fun hlj => absurd (hlb.symm.trans hlj) (by decide)) (fun _ => rfl) (fun _ => rfl) (fun _ => rfl) (fun _ => rfl) (fun _ => rfl) (fun _ => rfl) (fun _ => rfl) (fun _ => rfl) (fun _ => rfl) (fun _ => rfl) (fun _ => rfl) (fun _ => rfl) (fun _ => rfl) (fun _ => rfl) (fun _ => rfl) (fun _ => rfl) (fun _ => rfl) (fun _ => rfl) (fun _ => rfl) (fun _ => rfl) (fun _ => rfl) (fun _ => rfl) (fun _ => rfl) (fun _ => rfl) (fun _ => rfl) (fun _ => rfl) (fun _ => rfl) (fun _ => rfl) (fun _ => rfl) (fun _ => rfl) (fun _ => rfl) (fun _ => rfl) (fun _ => rfl) (fun _ => rfl) (fun _ => rfl) (fun _ => rfl) (fun _ => rfl) (fun _ => rfl) (fun _ => rfl) (fun _ => rfl) (fun _ => rfl) (fun _ => rfl) (fun _ => rfl) (fun _ => rfl) (fun _ => rfl) (fun _ => rfl) (fun _ => rfl) (fun _ => rfl) (fun _ => rfl) (fun _ => rfl) (fun _ => rfl) (fun _ => rfl) (fun _ => rfl) (fun _ => rfl) (fun _ => rfl) (fun _ => rfl) (fun _ => rfl) (fun _ => rfl)), (by rw [if_neg (by simp [XInv.up, hs2])]; rw [if_pos (by simp [XInv.up, hs1])]; exact ⟨below_alloc hB _, lit1 w' b3⟩)⟩
    · refine XInv.yes_tab [(105, 28), (103, 26), (102, 25)] (by kernel_rfl) ?_
      have hs0 := (hclo 11 10 (by decide) (hclo 13 11 (by decide) (hclo 17 13 (by decide) (hclo 21 17 (by decide) (hclo 25 21 (by decide) (hneed 25 (by kernel_rfl)) (by kernel_rfl)) (by kernel_rfl)) (by kernel_rfl)) (by kernel_rfl)) (by kernel_rfl))
      have hs1 := hneed 28 (by kernel_rfl)
      have hs2 : lb 73 = false := (Bool.eq_false_or_eq_true (lb 73)).elim (fun h => absurd (hclo 31 29 (by decide) (hclo 35 31 (by decide) (hclo 39 35 (by decide) (hclo 44 39 (by decide) (hclo 51 44 (by decide) (hclo 55 51 (by decide) (hclo 60 55 (by decide) (hclo 67 60 (by decide) (hclo 71 67 (by decide) (hclo 73 71 (by decide) h (by kernel_rfl)) (by kernel_rfl)) (by kernel_rfl)) (by kernel_rfl)) (by kernel_rfl)) (by kernel_rfl)) (by kernel_rfl)) (by kernel_rfl)) (by kernel_rfl)) (by kernel_rfl)) (by rw [hlb]; decide)) id
      rw [if_neg (by rw [hs2]; decide)] at hW
      rw [if_pos hs1] at hW
      have hB := hW.1
      clear hcl hneed hclo
      intro Q2 K2 hK2
      simp only [XInv.puts, XPrint.pw]
      go_simp
      go_at_call 102
      (with_reducible refine (same_ok [b3] 1 rfl 4 (by decide +kernel) _ _ _ _ _ (Kd.C_below (Kd.R_reads' DR.out).2.2 hB) hW.2 (Kd.R_reads' DR.out).2.1 (Nat.le_refl _)).mono ?_)
      rintro e wz ⟨rfl, hb⟩
      exact hK2.out (.bool true) wz ⟨bq, rfl, (by intros; first | rfl | trivial), (by rw [if_neg (by simp [XInv.up, hs2])]; rw [if_pos (by simp [XInv.up, hs1])]; exact ⟨below_step hB hb, Kd.C_below hW.2 hb⟩)⟩
    · refine XInv.yes_tab [(106, 29), (102, 25)] (by kernel_rfl) ?_
      have hs0 := (hclo 11 10 (by decide) (hclo 13 11 (by decide) (hclo 17 13 (by decide) (hclo 21 17 (by decide) (hclo 25 21 (by decide) (hneed 25 (by kernel_rfl)) (by kernel_rfl)) (by kernel_rfl)) (by kernel_rfl)) (by kernel_rfl)) (by kernel_rfl))
      have hs1 := (hclo 29 28 (by decide) (hneed 29 (by kernel_rfl)) (by kernel_rfl))
      have hs2 : lb 73 = false := (Bool.eq_false_or_eq_true (lb 73)).elim (fun h => absurd (hclo 31 30 (by decide) (hclo 35 31 (by decide) (hclo 39 35 (by decide) (hclo 44 39 (by decide) (hclo 51 44 (by decide) (hclo 55 51 (by decide) (hclo 60 55 (by decide) (hclo 67 60 (by decide) (hclo 71 67 (by decide) (hclo 73 71 (by decide) h (by kernel_rfl)) (by kernel_rfl)) (by kernel_rfl)) (by kernel_rfl)) (by kernel_rfl)) (by kernel_rfl)) (by kernel_rfl)) (by kernel_rfl)) (by kernel_rfl)) (by kernel_rfl)) (by rw [hlb]; decide)) id
      rw [if_neg (by rw [hs2]; decide)] at hW
      rw [if_pos hs1] at hW
      have hB := hW.1
      clear hcl hneed hclo
      intro Q2 K2 hK2
      simp only [XInv.puts, XPrint.pw]
      go_simp
      exact hK2.out (.bool true) w' ⟨bq, rfl, (by intros; first | rfl | trivial), (by rw [if_neg (by simp [XInv.up, hs2])]; rw [if_pos (by simp [XInv.up, hs1])]; exact hW)⟩
    · refine XInv.yes_tab [(107, 30), (106, 29)] (by kernel_rfl) ?_
      have hs0 := (hclo 11 10 (by decide) (hclo 13 11 (by decide) (hclo 17 13 (by decide) (hclo 21 17 (by decide) (hclo 25 21 (by decide) (hclo 29 25 (by decide) (hneed 29 (by kernel_rfl)) (by kernel_rfl)) (by kernel_rfl)) (by kernel_rfl)) (by kernel_rfl)) (by kernel_rfl)) (by kernel_rfl))
      have hs1 := (hclo 29 28 (by decide) (hneed 29 (by kernel_rfl)) (by kernel_rfl))
      have hs2 : lb 73 = false := (Bool.eq_false_or_eq_true (lb 73)).elim (fun h => absurd (hclo 35 31 (by decide) (hclo 39 35 (by decide) (hclo 44 39 (by decide) (hclo 51 44 (by decide) (hclo 55 51 (by decide) (hclo 60 55 (by decide) (hclo 67 60 (by decide) (hclo 71 67 (by decide) (hclo 73 71 (by decide) h (by kernel_rfl)) (by kernel_rfl)) (by kernel_rfl)) (by kernel_rfl)) (by kernel_rfl)) (by kernel_rfl)) (by kernel_rfl)) (by kernel_rfl)) (by kernel_rfl)) (by rw [hlb]; decide)) id
      rw [if_neg (by rw [hs2]; decide)] at hW
      rw [if_pos hs1] at hW
      have hB := hW.1
      clear hcl hneed hclo
      intro Q2 K2 hK2
      simp only [XInv.puts, XPrint.pw]
      go_simp
      exact hK2.out (.bool true) w' ⟨bq, rfl, (by intros; first | rfl | trivial), (by rw [if_neg (by simp [XInv.up, hs2])]; rw [if_pos (by simp [XInv.up, hs1])]; exact hW)⟩
    · refine XInv.yes_tab [(108, 31)] (by kernel_rfl) ?_
      have hs0 := (hclo 11 10 (by decide) (hclo 13 11 (by decide) (hclo 17 13 (by decide) (hclo 21 17 (by decide) (hclo 25 21 (by decide) (hclo 29 25 (by decide) (hclo 31 29 (by decide) (hneed 31 (by kernel_rfl)) (by kernel_rfl)) (by kernel_rfl)) (by kernel_rfl)) (by kernel_rfl)) (by kernel_rfl)) (by kernel_rfl)) (by kernel_rfl))
      have hs1 := (hclo 29 28 (by decide) (hclo 31 29 (by decide) (hneed 31 (by kernel_rfl)) (by kernel_rfl)) (by kernel_rfl))
      have hs2 : lb 73 = false := (Bool.eq_false_or_eq_true (lb 73)).elim (fun h => absurd (hclo 33 32 (by decide) (hclo 34 33 (by decide) (hclo 35 34 (by decide) (hclo 39 35 (by decide) (hclo 44 39 (by decide) (hclo 51 44 (by decide) (hclo 55 51 (by decide) (hclo 60 55 (by decide) (hclo 67 60 (by decide) (hclo 71 67 (by decide) (hclo 73 71 (by decide) h (by kernel_rfl)) (by kernel_rfl)) (by kernel_rfl)) (by kernel_rfl)) (by kernel_rfl)) (by kernel_rfl)) (by kernel_rfl)) (by kernel_rfl)) (by kernel_rfl)) (by kernel_rfl)) (by kernel_rfl)) (by rw [hlb]; decide)) id
      rw [if_neg (by rw [hs2]; decide)] at hW
      rw [if_pos hs1] at hW
      have hB := hW.1
      clear hcl hneed hclo
      intro Q2 K2 hK2
      simp only [XInv.puts, XPrint.pw]
      go_simp
      exact hK2.out (.int .i64 0) w' ⟨bq, rfl, (by intros; first | rfl | trivial), (by rw [if_neg (by simp [XInv.up, hs2])]; rw [if_pos (by simp [XInv.up, hs1])]; exact hW)⟩
    · refine XInv.yes_tab [(109, 32), (108, 31)] (by kernel_rfl) ?_
      have hs0 := (hclo 11 10 (by decide) (hclo 13 11 (by decide) (hclo 17 13 (by decide) (hclo 21 17 (by decide) (hclo 25 21 (by decide) (hclo 29 25 (by decide) (hclo 31 29 (by decide) (hneed 31 (by kernel_rfl)) (by kernel_rfl)) (by kernel_rfl)) (by kernel_rfl)) (by kernel_rfl)) (by kernel_rfl)) (by kernel_rfl)) (by kernel_rfl))
      have hs1 := (hclo 29 28 (by decide) (hclo 31 29 (by decide) (hneed 31 (by kernel_rfl)) (by kernel_rfl)) (by kernel_rfl))
      have hs2 : lb 73 = false := (Bool.eq_false_or_eq_true (lb 73)).elim (fun h => absurd (hclo 34 33 (by decide) (hclo 35 34 (by decide) (hclo 39 35 (by decide) (hclo 44 39 (by decide) (hclo 51 44 (by decide) (hclo 55 51 (by decide) (hclo 60 55 (by decide) (hclo 67 60 (by decide) (hclo 71 67 (by decide) (hclo 73 71 (by decide) h (by kernel_rfl)) (by kernel_rfl)) (by kernel_rfl)) (by kernel_rfl)) (by kernel_rfl)) (by kernel_rfl)) (by kernel_rfl)) (by kernel_rfl)) (by kernel_rfl)) (by kernel_rfl)) (by rw [hlb]; decide)) id
      rw [if_neg (by rw [hs2]; decide)] at hW
      rw [if_pos hs1] at hW
      have hB := hW.1
      clear hcl hneed hclo
      intro Q2 K2 hK2
      simp only [XInv.puts, XPrint.pw]
      go_simp
      exact hK2.out (.bool true) w' ⟨bq, rfl, (by intros; first | rfl | trivial), (by rw [if_neg (by simp [XInv.up, hs2])]; rw [if_pos (by simp [XInv.up, hs1])]; exact hW)⟩
    · refine XInv.yes_tab [(110, 33), (108, 31)] (by kernel_rfl) ?_
      have hs0 := (hclo 11 10 (by decide) (hclo 13 11 (by decide) (hclo 17 13 (by decide) (hclo 21 17 (by decide) (hclo 25 21 (by decide) (hclo 29 25 (by decide) (hclo 31 29 (by decide) (hneed 31 (by kernel_rfl)) (by kernel_rfl)) (by kernel_rfl)) (by kernel_rfl)) (by kernel_rfl)) (by kernel_rfl)) (by kernel_rfl)) (by kernel_rfl))
      have hs1 := (hclo 29 28 (by decide) (hclo 31 29 (by decide) (hneed 31 (by kernel_rfl)) (by kernel_rfl)) (by kernel_rfl))
      have hs2 : lb 73 = false := (Bool.eq_false_or_eq_true (lb 73)).elim (fun h => absurd (hclo 35 34 (by decide) (hclo 39 35 (by decide) (hclo 44 39 (by decide) (hclo 51 44 (by decide) (hclo 55 51 (by decide) (hclo 60 55 (by decide) (hclo 67 60 (by decide) (hclo 71 67 (by decide) (hclo 73 71 (by decide) h (by kernel_rfl)) (by kernel_rfl)) (by kernel_rfl)) (by kernel_rfl)) (by kernel_rfl)) (by kernel_rfl)) (by kernel_rfl)) (by kernel_rfl)) (by kernel_rfl)) (by rw [hlb]; decide)) id
      rw [if_neg (by rw [hs2]; decide)] at hW
      rw [if_pos hs1] at hW
      have hB := hW.1
      clear hcl hneed hclo
      intro Q2 K2 hK2
      simp only [XInv.puts, XPrint.pw]
      go_simp
      exact hK2.out (.bool true) w' ⟨bq, rfl, (by intros; first | rfl | trivial), (by rw [if_neg (by simp [XInv.up, hs2])]; rw [if_pos (by simp [XInv.up, hs1])]; exact hW)⟩
    · refine XInv.yes_tab [(111, 34), (108, 31)] (by kernel_rfl) ?_
      have hs0 := (hclo 11 10 (by decide) (hclo 13 11 (by decide) (hclo 17 13 (by decide) (hclo 21 17 (by decide) (hclo 25 21 (by decide) (hclo 29 25 (by decide) (hclo 31 29 (by decide) (hneed 31 (by kernel_rfl)) (by kernel_rfl)) (by kernel_rfl)) (by kernel_rfl)) (by kernel_rfl)) (by kernel_rfl)) (by kernel_rfl)) (by kernel_rfl))
      have hs1 := (hclo 29 28 (by decide) (hclo 31 29 (by decide) (hneed 31 (by kernel_rfl)) (by kernel_rfl)) (by kernel_rfl))
      have hs2 : lb 73 = false := (Bool.eq_false_or_eq_true (lb 73)).elim (fun h => absurd (hclo 39 35 (by decide) (hclo 44 39 (by decide) (hclo 51 44 (by decide) (hclo 55 51 (by decide) (hclo 60 55 (by decide) (hclo 67 60 (by decide) (hclo 71 67 (by decide) (hclo 73 71 (by decide) h (by kernel_rfl)) (by kernel_rfl)) (by kernel_rfl)) (by kernel_rfl)) (by kernel_rfl)) (by kernel_rfl)) (by kernel_rfl)) (by kernel_rfl)) (by rw [hlb]; decide)) id
      rw [if_neg (by rw [hs2]; decide)] at hW
      rw [if_pos hs1] at hW
      have hB := hW.1
      clear hcl hneed hclo
      intro Q2 K2 hK2
      simp only [XInv.puts, XPrint.pw]
      go_simp
      exact hK2.out (.bool true) w' ⟨bq, rfl, (by intros; first | rfl | trivial), (by rw [if_neg (by simp [XInv.up, hs2])]; rw [if_pos (by simp [XInv.up, hs1])]; exact hW)⟩
    · refine XInv.yes_tab [(112, 35)] (by kernel_rfl) ?_
      have hs0 := (hclo 11 10 (by decide) (hclo 13 11 (by decide) (hclo 17 13 (by decide) (hclo 21 17 (by decide) (hclo 25 21 (by decide) (hclo 29 25 (by decide) (hclo 31 29 (by decide) (hclo 35 31 (by decide) (hneed 35 (by kernel_rfl)) (by kernel_rfl)) (by kernel_rfl)) (by kernel_rfl)) (by kernel_rfl)) (by kernel_rfl)) (by kernel_rfl)) (by kernel_rfl)) (by kernel_rfl))
      have hs1 := (hclo 29 28 (by decide) (hclo 31 29 (by decide) (hclo 35 31 (by decide) (hneed 35 (by kernel_rfl)) (by kernel_rfl)) (by kernel_rfl)) (by kernel_rfl))
      have hs2 : lb 73 = false := (Bool.eq_false_or_eq_true (lb 73)).elim (fun h => absurd (hclo 37 36 (by decide) (hclo 38 37 (by decide) (hclo 39 38 (by decide) (hclo 44 39 (by decide) (hclo 51 44 (by decide) (hclo 55 51 (by decide) (hclo 60 55 (by decide) (hclo 67 60 (by decide) (hclo 71 67 (by decide) (hclo 73 71 (by decide) h (by kernel_rfl)) (by kernel_rfl)) (by kernel_rfl)) (by kernel_rfl)) (by kernel_rfl)) (by kernel_rfl)) (by kernel_rfl)) (by kernel_rfl)) (by kernel_rfl)) (by kernel_rfl)) (by rw [hlb]; decide)) id
      rw [if_neg (by rw [hs2]; decide)] at hW
      rw [if_pos hs1] at hW
      have hB := hW.1
      clear hcl hneed hclo
      intro Q2 K2 hK2
      simp only [XInv.puts, XPrint.pw]
      go_simp
      exact hK2.out (.int .i64 0) w' ⟨bq, rfl, (by intros; first | rfl | trivial), (by rw [if_neg (by simp [XInv.up, hs2])]; rw [if_pos (by simp [XInv.up, hs1])]; exact hW)⟩
    · refine XInv.yes_tab [(113, 36), (112, 35)] (by kernel_rfl) ?_
      have hs0 := (hclo 11 10 (by decide) (hclo 13 11 (by decide) (hclo 17 13 (by decide) (hclo 21 17 (by decide) (hclo 25 21 (by decide) (hclo 29 25 (by decide) (hclo 31 29 (by decide) (hclo 35 31 (by decide) (hneed 35 (by kernel_rfl)) (by kernel_rfl)) (by kernel_rfl)) (by kernel_rfl)) (by kernel_rfl)) (by kernel_rfl)) (by kernel_rfl)) (by kernel_rfl)) (by kernel_rfl))
      have hs1 := (hclo 29 28 (by decide) (hclo 31 29 (by decide) (hclo 35 31 (by decide) (hneed 35 (by kernel_rfl)) (by kernel_rfl)) (by kernel_rfl)) (by kernel_rfl))
      have hs2 : lb 73 = false := (Bool.eq_false_or_eq_true (lb 73)).elim (fun h => absurd (hclo 38 37 (by decide) (hclo 39 38 (by decide) (hclo 44 39 (by decide) (hclo 51 44 (by decide) (hclo 55 51 (by decide) (hclo 60 55 (by decide) (hclo 67 60 (by decide) (hclo 71 67 (by decide) (hclo 73 71 (by decide) h (by kernel_rfl)) (by kernel_rfl)) (by kernel_rfl)) (by kernel_rfl)) (by kernel_rfl)) (by kernel_rfl)) (by kernel_rfl)) (by kernel_rfl)) (by kernel_rfl)) (by rw [hlb]; decide)) id
      rw [if_neg (by rw [hs2]; decide)] at hW
      rw [if_pos hs1] at hW
      have hB := hW.1
      clear hcl hneed hclo
      intro Q2 K2 hK2
      simp only [XInv.puts, XPrint.pw]
      go_simp
      exact hK2.out (.bool true) w' ⟨bq, rfl, (by intros; first | rfl | trivial), (by rw [if_neg (by simp [XInv.up, hs2])]; rw [if_pos (by simp [XInv.up, hs1])]; exact hW)⟩
    · refine XInv.yes_tab [(114, 37), (112, 35)] (by kernel_rfl) ?_
      have hs0 := (hclo 11 10 (by decide) (hclo 13 11 (by decide) (hclo 17 13 (by decide) (hclo 21 17 (by decide) (hclo 25 21 (by decide) (hclo 29 25 (by decide) (hclo 31 29 (by decide) (hclo 35 31 (by decide) (hneed 35 (by kernel_rfl)) (by kernel_rfl)) (by kernel_rfl)) (by kernel_rfl)) (by kernel_rfl)) (by kernel_rfl)) (by kernel_rfl)) (by kernel_rfl)) (by kernel_rfl))
      have hs1 := (hclo 29 28 (by decide) (hclo 31 29 (by decide) (hclo 35 31 (by decide) (hneed 35 (by kernel_rfl)) (by kernel_rfl)) (by kernel_rfl)) (by kernel_rfl))
      have hs2 : lb 73 = false := (Bool.eq_false_or_eq_true (lb 73)).elim (fun h => absurd (hclo 39 38 (by decide) (hclo 44 39 (by decide) (hclo 51 44 (by decide) (hclo 55 51 (by decide) (hclo 60 55 (by decide) (hclo 67 60 (by decide) (hclo 71 67 (by decide) (hclo 73 71 (by decide) h (by kernel_rfl)) (by kernel_rfl)) (by kernel_rfl)) (by kernel_rfl)) (by kernel_rfl)) (by kernel_rfl)) (by kernel_rfl)) (by kernel_rfl)) (by rw [hlb]; decide)) id
      rw [if_neg (by rw [hs2]; decide)] at hW
      rw [if_pos hs1] at hW
      have hB := hW.1
      clear hcl hneed hclo
      intro Q2 K2 hK2
      simp only [XInv.puts, XPrint.pw]
      go_simp
      exact hK2.out (.bool true) w' ⟨bq, rfl, (by intros; first | rfl | trivial), (by rw [if_neg (by simp [XInv.up, hs2])]; rw [if_pos (by simp [XInv.up, hs1])]; exact hW)⟩
    · refine XInv.yes_tab [(115, 38), (112, 35)] (by kernel_rfl) ?_
      have hs0 := (hclo 11 10 (by decide) (hclo 13 11 (by decide) (hclo 17 13 (by decide) (hclo 21 17 (by decide) (hclo 25 21 (by decide) (hclo 29 25 (by decide) (hclo 31 29 (by decide) (hclo 35 31 (by decide) (hneed 35 (by kernel_rfl)) (by kernel_rfl)) (by kernel_rfl)) (by kernel_rfl)) (by kernel_rfl)) (by kernel_rfl)) (by kernel_rfl)) (by kernel_rfl)) (by kernel_rfl))
      have hs1 := (hclo 29 28 (by decide) (hclo 31 29 (by decide) (hclo 35 31 (by decide) (hneed 35 (by kernel_rfl)) (by kernel_rfl)) (by kernel_rfl)) (by kernel_rfl))
      have hs2 : lb 73 = false := (Bool.eq_false_or_eq_true (lb 73)).elim (fun h => absurd (hclo 44 39 (by decide) (hclo 51 44 (by decide) (hclo 55 51 (by decide) (hclo 60 55 (by decide) (hclo 67 60 (by decide) (hclo 71 67 (by decide) (hclo 73 71 (by decide) h (by kernel_rfl)) (by kernel_rfl)) (by kernel_rfl)) (by kernel_rfl)) (by kernel_rfl)) (by kernel_rfl)) (by kernel_rfl)) (by rw [hlb]; decide)) id
      rw [if_neg (by rw [hs2]; decide)] at hW
      rw [if_pos hs1] at hW
      have hB := hW.1
      clear hcl hneed hclo
      intro Q2 K2 hK2
      simp only [XInv.puts, XPrint.pw]
      go_simp
      exact hK2.out (.bool true) w' ⟨bq, rfl, (by intros; first | rfl | trivial), (by rw [if_neg (by simp [XInv.up, hs2])]; rw [if_pos (by simp [XInv.up, hs1])]; exact hW)⟩
    · refine XInv.yes_tab [(116, 39)] (by kernel_rfl) ?_
      have hs0 := (hclo 11 10 (by decide) (hclo 13 11 (by decide) (hclo 17 13 (by decide) (hclo 21 17 (by decide) (hclo 25 21 (by decide) (hclo 29 25 (by decide) (hclo 31 29 (by decide) (hclo 35 31 (by decide) (hclo 39 35 (by decide) (hneed 39 (by kernel_rfl)) (by kernel_rfl)) (by kernel_rfl)) (by kernel_rfl)) (by kernel_rfl)) (by kernel_rfl)) (by kernel_rfl)) (by kernel_rfl)) (by kernel_rfl)) (by kernel_rfl))
      have hs1 := (hclo 29 28 (by decide) (hclo 31 29 (by decide) (hclo 35 31 (by decide) (hclo 39 35 (by decide) (hneed 39 (by kernel_rfl)) (by kernel_rfl)) (by kernel_rfl)) (by kernel_rfl)) (by kernel_rfl))
      have hs2 : lb 73 = false := (Bool.eq_false_or_eq_true (lb 73)).elim (fun h => absurd (hclo 41 40 (by decide) (hclo 42 41 (by decide) (hclo 43 42 (by decide) (hclo 44 43 (by decide) (hclo 51 44 (by decide) (hclo 55 51 (by decide) (hclo 60 55 (by decide) (hclo 67 60 (by decide) (hclo 71 67 (by decide) (hclo 73 71 (by decide) h (by kernel_rfl)) (by kernel_rfl)) (by kernel_rfl)) (by kernel_rfl)) (by kernel_rfl)) (by kernel_rfl)) (by kernel_rfl)) (by kernel_rfl)) (by kernel_rfl)) (by kernel_rfl)) (by rw [hlb]; decide)) id
      rw [if_neg (by rw [hs2]; decide)] at hW
      rw [if_pos hs1] at hW
      have hB := hW.1
      clear hcl hneed hclo
      intro Q2 K2 hK2
      simp only [XInv.puts, XPrint.pw]
      go_simp
      exact hK2.out (.slice (some a4) 1 c4) w' ⟨bq, rfl, (by intros; first | rfl | trivial), (by rw [if_neg (by simp [XInv.up, hs2])]; rw [if_pos (by simp [XInv.up, hs1])]; exact hW)⟩
    · refine XInv.yes_tab [(117, 40), (116, 39)] (by kernel_rfl) ?_
      have hs0 := (hclo 11 10 (by decide) (hclo 13 11 (by decide) (hclo 17 13 (by decide) (hclo 21 17 (by decide) (hclo 25 21 (by decide) (hclo 29 25 (by decide) (hclo 31 29 (by decide) (hclo 35 31 (by decide) (hclo 39 35 (by decide) (hneed 39 (by kernel_rfl)) (by kernel_rfl)) (by kernel_rfl)) (by kernel_rfl)) (by kernel_rfl)) (by kernel_rfl)) (by kernel_rfl)) (by kernel_rfl)) (by kernel_rfl)) (by kernel_rfl))
      have hs1 := (hclo 29 28 (by decide) (hclo 31 29 (by decide) (hclo 35 31 (by decide) (hclo 39 35 (by decide) (hneed 39 (by kernel_rfl)) (by kernel_rfl)) (by kernel_rfl)) (by kernel_rfl)) (by kernel_rfl))
      have hs2 : lb 73 = false := (Bool.eq_false_or_eq_true (lb 73)).elim (fun h => absurd (hclo 42 41 (by decide) (hclo 43 42 (by decide) (hclo 44 43 (by decide) (hclo 51 44 (by decide) (hclo 55 51 (by decide) (hclo 60 55 (by decide) (hclo 67 60 (by decide) (hclo 71 67 (by decide) (hclo 73 71 (by decide) h (by kernel_rfl)) (by kernel_rfl)) (by kernel_rfl)) (by kernel_rfl)) (by kernel_rfl)) (by kernel_rfl)) (by kernel_rfl)) (by kernel_rfl)) (by kernel_rfl)) (by rw [hlb]; decide)) id
      rw [if_neg (by rw [hs2]; decide)] at hW
      rw [if_pos hs1] at hW
      have hB := hW.1
      clear hcl hneed hclo
      intro Q2 K2 hK2
      simp only [XInv.puts, XPrint.pw]
      go_simp
      exact hK2.out (.int .i64 1) w' ⟨bq, rfl, (by intros; first | rfl | trivial), (by rw [if_neg (by simp [XInv.up, hs2])]; rw [if_pos (by simp [XInv.up, hs1])]; exact hW)⟩
    · refine XInv.yes_tab [(118, 41), (116, 39)] (by kernel_rfl) ?_
      have hs0 := (hclo 11 10 (by decide) (hclo 13 11 (by decide) (hclo 17 13 (by decide) (hclo 21 17 (by decide) (hclo 25 21 (by decide) (hclo 29 25 (by decide) (hclo 31 29 (by decide) (hclo 35 31 (by decide) (hclo 39 35 (by decide) (hneed 39 (by kernel_rfl)) (by kernel_rfl)) (by kernel_rfl)) (by kernel_rfl)) (by kernel_rfl)) (by kernel_rfl)) (by kernel_rfl)) (by kernel_rfl)) (by kernel_rfl)) (by kernel_rfl))
      have hs1 := (hclo 29 28 (by decide) (hclo 31 29 (by decide) (hclo 35 31 (by decide) (hclo 39 35 (by decide) (hneed 39 (by kernel_rfl)) (by kernel_rfl)) (by kernel_rfl)) (by kernel_rfl)) (by kernel_rfl))
      have hs2 : lb 73 = false := (Bool.eq_false_or_eq_true (lb 73)).elim (fun h => absurd (hclo 43 42 (by decide) (hclo 44 43 (by decide) (hclo 51 44 (by decide) (hclo 55 51 (by decide) (hclo 60 55 (by decide) (hclo 67 60 (by decide) (hclo 71 67 (by decide) (hclo 73 71 (by decide) h (by kernel_rfl)) (by kernel_rfl)) (by kernel_rfl)) (by kernel_rfl)) (by kernel_rfl)) (by kernel_rfl)) (by kernel_rfl)) (by kernel_rfl)) (by rw [hlb]; decide)) id
      rw [if_neg (by rw [hs2]; decide)] at hW
      rw [if_pos hs1] at hW
      have hB := hW.1
      clear hcl hneed hclo
      intro Q2 K2 hK2
      simp only [XInv.puts, XPrint.pw]
      go_simp
      exact hK2.out (.bool true) w' ⟨bq, rfl, (by intros; first | rfl | trivial), (by rw [if_neg (by simp [XInv.up, hs2])]; rw [if_pos (by simp [XInv.up, hs1])]; exact hW)⟩
    · refine XInv.yes_tab [(119, 42), (116, 39)] (by kernel_rfl) ?_
      have hs0 := (hclo 11 10 (by decide) (hclo 13 11 (by decide) (hclo 17 13 (by decide) (hclo 21 17 (by decide) (hclo 25 21 (by decide) (hclo 29 25 (by decide) (hclo 31 29 (by decide) (hclo 35 31 (by decide) (hclo 39 35 (by decide) (hneed 39 (by kernel_rfl)) (by kernel_rfl)) (by kernel_rfl)) (by kernel_rfl)) (by kernel_rfl)) (by kernel_rfl)) (by kernel_rfl)) (by kernel_rfl)) (by kernel_rfl)) (by kernel_rfl))
      have hs1 := (hclo 29 28 (by decide) (hclo 31 29 (by decide) (hclo 35 31 (by decide) (hclo 39 35 (by decide) (hneed 39 (by kernel_rfl)) (by kernel_rfl)) (by kernel_rfl)) (by kernel_rfl)) (by kernel_rfl))
      have hs2 : lb 73 = false := (Bool.eq_false_or_eq_true (lb 73)).elim (fun h => absurd (hclo 44 43 (by decide) (hclo 51 44 (by decide) (hclo 55 51 (by decide) (hclo 60 55 (by decide) (hclo 67 60 (by decide) (hclo 71 67 (by decide) (hclo 73 71 (by decide) h (by kernel_rfl)) (by kernel_rfl)) (by kernel_rfl)) (by kernel_rfl)) (by kernel_rfl)) (by kernel_rfl)) (by kernel_rfl)) (by rw [hlb]; decide)) id
      rw [if_neg (by rw [hs2]; decide)] at hW
      rw [if_pos hs1] at hW
      have hB := hW.1
      clear hcl hneed hclo
      intro Q2 K2 hK2
      simp only [XInv.puts, XPrint.pw]
      go_simp
      exact hK2.out (.bool true) w' ⟨bq, rfl, (by intros; first | rfl | trivial), (by rw [if_neg (by simp [XInv.up, hs2])]; rw [if_pos (by simp [XInv.up, hs1])]; exact hW)⟩
    · refine XInv.yes_tab [(120, 43), (116, 39)] (by kernel_rfl) ?_
      have hs0 := (hclo 11 10 (by decide) (hclo 13 11 (by decide) (hclo 17 13 (by decide) (hclo 21 17 (by decide) (hclo 25 21 (by decide) (hclo 29 25 (by decide) (hclo 31 29 (by decide) (hclo 35 31 (by decide) (hclo 39 35 (by decide) (hneed 39 (by kernel_rfl)) (by kernel_rfl)) (by kernel_rfl)) (by kernel_rfl)) (by kernel_rfl)) (by kernel_rfl)) (by kernel_rfl)) (by kernel_rfl)) (by kernel_rfl)) (by kernel_rfl))
      have hs1 := (hclo 29 28 (by decide) (hclo 31 29 (by decide) (hclo 35 31 (by decide) (hclo 39 35 (by decide) (hneed 39 (by kernel_rfl)) (by kernel_rfl)) (by kernel_rfl)) (by kernel_rfl)) (by kernel_rfl))
      have hs2 : lb 73 = false := (Bool.eq_false_or_eq_true (lb 73)).elim (fun h => absurd (hclo 51 44 (by decide) (hclo 55 51 (by decide) (hclo 60 55 (by decide) (hclo 67 60 (by decide) (hclo 71 67 (by decide) (hclo 73 71 (by decide) h (by kernel_rfl)) (by kernel_rfl)) (by kernel_rfl)) (by kernel_rfl)) (by kernel_rfl)) (by kernel_rfl)) (by rw [hlb]; decide)) id
      rw [if_neg (by rw [hs2]; decide)] at hW
      rw [if_pos hs1] at hW
      have hB := hW.1
      clear hcl hneed hclo
      intro Q2 K2 hK2
      simp only [XInv.puts, XPrint.pw]
      go_simp
      exact hK2.out (.bool true) w' ⟨bq, rfl, (by intros; first | rfl | trivial), (by rw [if_neg (by simp [XInv.up, hs2])]; rw [if_pos (by simp [XInv.up, hs1])]; exact hW)⟩
    · refine XInv.yes_tab [(121, 44)] (by kernel_rfl) ?_
      have hs0 := (hclo 11 10 (by decide) (hclo 13 11 (by decide) (hclo 17 13 (by decide) (hclo 21 17 (by decide) (hclo 25 21 (by decide) (hclo 29 25 (by decide) (hclo 31 29 (by decide) (hclo 35 31 (by decide) (hclo 39 35 (by decide) (hclo 44 39 (by decide) (hneed 44 (by kernel_rfl)) (by kernel_rfl)) (by kernel_rfl)) (by kernel_rfl)) (by kernel_rfl)) (by kernel_rfl)) (by kernel_rfl)) (by kernel_rfl)) (by kernel_rfl)) (by kernel_rfl)) (by kernel_rfl))
      have hs1 := (hclo 29 28 (by decide) (hclo 31 29 (by decide) (hclo 35 31 (by decide) (hclo 39 35 (by decide) (hclo 44 39 (by decide) (hneed 44 (by kernel_rfl)) (by kernel_rfl)) (by kernel_rfl)) (by kernel_rfl)) (by kernel_rfl)) (by kernel_rfl))
      have hs2 : lb 73 = false := (Bool.eq_false_or_eq_true (lb 73)).elim (fun h => absurd (hclo 46 45 (by decide) (hclo 47 46 (by decide) (hclo 48 47 (by decide) (hclo 49 48 (by decide) (hclo 50 49 (by decide) (hclo 51 50 (by decide) (hclo 55 51 (by decide) (hclo 60 55 (by decide) (hclo 67 60 (by decide) (hclo 71 67 (by decide) (hclo 73 71 (by decide) h (by kernel_rfl)) (by kernel_rfl)) (by kernel_rfl)) (by kernel_rfl)) (by kernel_rfl)) (by kernel_rfl)) (by kernel_rfl)) (by kernel_rfl)) (by kernel_rfl)) (by kernel_rfl)) (by kernel_rfl)) (by rw [hlb]; decide)) id
      rw [if_neg (by rw [hs2]; decide)] at hW
      rw [if_pos hs1] at hW
      have hB := hW.1
      clear hcl hneed hclo
      intro Q2 K2 hK2
      simp only [XInv.puts, XPrint.pw]
      go_simp
      exact hK2.out (.slice (some a4) 1 c4) w' ⟨bq, rfl, (by intros; first | rfl | trivial), (by rw [if_neg (by simp [XInv.up, hs2])]; rw [if_pos (by simp [XInv.up, hs1])]; exact hW)⟩
    · refine XInv.yes_tab [(122, 45), (121, 44)] (by kernel_rfl) ?_
      have hs0 := (hclo 11 10 (by decide) (hclo 13 11 (by decide) (hclo 17 13 (by decide) (hclo 21 17 (by decide) (hclo 25 21 (by decide) (hclo 29 25 (by decide) (hclo 31 29 (by decide) (hclo 35 31 (by decide) (hclo 39 35 (by decide) (hclo 44 39 (by decide) (hneed 44 (by kernel_rfl)) (by kernel_rfl)) (by kernel_rfl)) (by kernel_rfl)) (by kernel_rfl)) (by kernel_rfl)) (by kernel_rfl)) (by kernel_rfl)) (by kernel_rfl)) (by kernel_rfl)) (by kernel_rfl))
      have hs1 := (hclo 29 28 (by decide) (hclo 31 29 (by decide) (hclo 35 31 (by decide) (hclo 39 35 (by decide) (hclo 44 39 (by decide) (hneed 44 (by kernel_rfl)) (by kernel_rfl)) (by kernel_rfl)) (by kernel_rfl)) (by kernel_rfl)) (by kernel_rfl))
      have hs2 : lb 73 = false := (Bool.eq_false_or_eq_true (lb 73)).elim (fun h => absurd (hclo 47 46 (by decide) (hclo 48 47 (by decide) (hclo 49 48 (by decide) (hclo 50 49 (by decide) (hclo 51 50 (by decide) (hclo 55 51 (by decide) (hclo 60 55 (by decide) (hclo 67 60 (by decide) (hclo 71 67 (by decide) (hclo 73 71 (by decide) h (by kernel_rfl)) (by kernel_rfl)) (by kernel_rfl)) (by kernel_rfl)) (by kernel_rfl)) (by kernel_rfl)) (by kernel_rfl)) (by kernel_rfl)) (by kernel_rfl)) (by kernel_rfl)) (by rw [hlb]; decide)) id
      rw [if_neg (by rw [hs2]; decide)] at hW
      rw [if_pos hs1] at hW
      have hB := hW.1
      clear hcl hneed hclo
      intro Q2 K2 hK2
      simp only [XInv.puts, XPrint.pw]
      go_simp
      exact hK2.out (.pointer (some a4)) w' ⟨bq, rfl, (by intros; first | rfl | trivial), (by rw [if_neg (by simp [XInv.up, hs2])]; rw [if_pos (by simp [XInv.up, hs1])]; exact hW)⟩
    · refine XInv.yes_tab [(123, 46), (121, 44)] (by kernel_rfl) ?_
      have hs0 := (hclo 11 10 (by decide) (hclo 13 11 (by decide) (hclo 17 13 (by decide) (hclo 21 17 (by decide) (hclo 25 21 (by decide) (hclo 29 25 (by decide) (hclo 31 29 (by decide) (hclo 35 31 (by decide) (hclo 39 35 (by decide) (hclo 44 39 (by decide) (hneed 44 (by kernel_rfl)) (by kernel_rfl)) (by kernel_rfl)) (by kernel_rfl)) (by kernel_rfl)) (by kernel_rfl)) (by kernel_rfl)) (by kernel_rfl)) (by kernel_rfl)) (by kernel_rfl)) (by kernel_rfl))
      have hs1 := (hclo 29 28 (by decide) (hclo 31 29 (by decide) (hclo 35 31 (by decide) (hclo 39 35 (by decide) (hclo 44 39 (by decide) (hneed 44 (by kernel_rfl)) (by kernel_rfl)) (by kernel_rfl)) (by kernel_rfl)) (by kernel_rfl)) (by kernel_rfl))
      have hs2 : lb 73 = false := (Bool.eq_false_or_eq_true (lb 73)).elim (fun h => absurd (hclo 48 47 (by decide) (hclo 49 48 (by decide) (hclo 50 49 (by decide) (hclo 51 50 (by decide) (hclo 55 51 (by decide) (hclo 60 55 (by decide) (hclo 67 60 (by decide) (hclo 71 67 (by decide) (hclo 73 71 (by decide) h (by kernel_rfl)) (by kernel_rfl)) (by kernel_rfl)) (by kernel_rfl)) (by kernel_rfl)) (by kernel_rfl)) (by kernel_rfl)) (by kernel_rfl)) (by kernel_rfl)) (by rw [hlb]; decide)) id
      rw [if_neg (by rw [hs2]; decide)] at hW
      rw [if_pos hs1] at hW
      have hB := hW.1
      clear hcl hneed hclo
      intro Q2 K2 hK2
      simp only [XInv.puts, XPrint.pw]
      go_simp
      exact hK2.out (.pointer (some a4)) w' ⟨bq, rfl, (by intros; first | rfl | trivial), (by rw [if_neg (by simp [XInv.up, hs2])]; rw [if_pos (by simp [XInv.up, hs1])]; exact hW)⟩
    · refine XInv.yes_tab [(124, 47), (121, 44)] (by kernel_rfl) ?_
      have hs0 := (hclo 11 10 (by decide) (hclo 13 11 (by decide) (hclo 17 13 (by decide) (hclo 21 17 (by decide) (hclo 25 21 (by decide) (hclo 29 25 (by decide) (hclo 31 29 (by decide) (hclo 35 31 (by decide) (hclo 39 35 (by decide) (hclo 44 39 (by decide) (hneed 44 (by kernel_rfl)) (by kernel_rfl)) (by kernel_rfl)) (by kernel_rfl)) (by kernel_rfl)) (by kernel_rfl)) (by kernel_rfl)) (by kernel_rfl)) (by kernel_rfl)) (by kernel_rfl)) (by kernel_rfl))
      have hs1 := (hclo 29 28 (by decide) (hclo 31 29 (by decide) (hclo 35 31 (by decide) (hclo 39 35 (by decide) (hclo 44 39 (by decide) (hneed 44 (by kernel_rfl)) (by kernel_rfl)) (by kernel_rfl)) (by kernel_rfl)) (by kernel_rfl)) (by kernel_rfl))
      have hs2 : lb 73 = false := (Bool.eq_false_or_eq_true (lb 73)).elim (fun h => absurd (hclo 49 48 (by decide) (hclo 50 49 (by decide) (hclo 51 50 (by decide) (hclo 55 51 (by decide) (hclo 60 55 (by decide) (hclo 67 60 (by decide) (hclo 71 67 (by decide) (hclo 73 71 (by decide) h (by kernel_rfl)) (by kernel_rfl)) (by kernel_rfl)) (by kernel_rfl)) (by kernel_rfl)) (by kernel_rfl)) (by kernel_rfl)) (by kernel_rfl)) (by rw [hlb]; decide)) id
      rw [if_neg (by rw [hs2]; decide)] at hW
      rw [if_pos hs1] at hW
      have hB := hW.1
      clear hcl hneed hclo
      intro Q2 K2 hK2
      simp only [XInv.puts, XPrint.pw]
      have i0 := pw_cell_below hB IJ.out.1
      have j0 := pw_cell_below hB IJ.out.2
      go_simp
      exact hK2.out (.int .u32 2) w' ⟨bq, rfl, (by intros; first | rfl | trivial), (by rw [if_neg (by simp [XInv.up, hs2])]; rw [if_pos (by simp [XInv.up, hs1])]; exact hW)⟩
    · refine XInv.yes_tab [(125, 48), (121, 44)] (by kernel_rfl) ?_
      have hs0 := (hclo 11 10 (by decide) (hclo 13 11 (by decide) (hclo 17 13 (by decide) (hclo 21 17 (by decide) (hclo 25 21 (by decide) (hclo 29 25 (by decide) (hclo 31 29 (by decide) (hclo 35 31 (by decide) (hclo 39 35 (by decide) (hclo 44 39 (by decide) (hneed 44 (by kernel_rfl)) (by kernel_rfl)) (by kernel_rfl)) (by kernel_rfl)) (by kernel_rfl)) (by kernel_rfl)) (by kernel_rfl)) (by kernel_rfl)) (by kernel_rfl)) (by kernel_rfl)) (by kernel_rfl))
      have hs1 := (hclo 29 28 (by decide) (hclo 31 29 (by decide) (hclo 35 31 (by decide) (hclo 39 35 (by decide) (hclo 44 39 (by decide) (hneed 44 (by kernel_rfl)) (by kernel_rfl)) (by kernel_rfl)) (by kernel_rfl)) (by kernel_rfl)) (by kernel_rfl))
      have hs2 : lb 73 = false := (Bool.eq_false_or_eq_true (lb 73)).elim (fun h => absurd (hclo 50 49 (by decide) (hclo 51 50 (by decide) (hclo 55 51 (by decide) (hclo 60 55 (by decide) (hclo 67 60 (by decide) (hclo 71 67 (by decide) (hclo 73 71 (by decide) h (by kernel_rfl)) (by kernel_rfl)) (by kernel_rfl)) (by kernel_rfl)) (by kernel_rfl)) (by kernel_rfl)) (by kernel_rfl)) (by rw [hlb]; decide)) id
      rw [if_neg (by rw [hs2]; decide)] at hW
      rw [if_pos hs1] at hW
      have hB := hW.1
      clear hcl hneed hclo
      intro Q2 K2 hK2
      simp only [XInv.puts, XPrint.pw]
      go_simp
      exact hK2.out (.bool true) w' ⟨bq, rfl, (by intros; first | rfl | trivial), (by rw [if_neg (by simp [XInv.up, hs2])]; rw [if_pos (by simp [XInv.up, hs1])]; exact hW)⟩
    · refine XInv.yes_tab [(126, 49), (121, 44)] (by kernel_rfl) ?_
      have hs0 := (hclo 11 10 (by decide) (hclo 13 11 (by decide) (hclo 17 13 (by decide) (hclo 21 17 (by decide) (hclo 25 21 (by decide) (hclo 29 25 (by decide) (hclo 31 29 (by decide) (hclo 35 31 (by decide) (hclo 39 35 (by decide) (hclo 44 39 (by decide) (hneed 44 (by kernel_rfl)) (by kernel_rfl)) (by kernel_rfl)) (by kernel_rfl)) (by kernel_rfl)) (by kernel_rfl)) (by kernel_rfl)) (by kernel_rfl)) (by kernel_rfl)) (by kernel_rfl)) (by kernel_rfl))
      have hs1 := (hclo 29 28 (by decide) (hclo 31 29 (by decide) (hclo 35 31 (by decide) (hclo 39 35 (by decide) (hclo 44 39 (by decide) (hneed 44 (by kernel_rfl)) (by kernel_rfl)) (by kernel_rfl)) (by kernel_rfl)) (by kernel_rfl)) (by kernel_rfl))
      have hs2 : lb 73 = false := (Bool.eq_false_or_eq_true (lb 73)).elim (fun h => absurd (hclo 51 50 (by decide) (hclo 55 51 (by decide) (hclo 60 55 (by decide) (hclo 67 60 (by decide) (hclo 71 67 (by decide) (hclo 73 71 (by decide) h (by kernel_rfl)) (by kernel_rfl)) (by kernel_rfl)) (by kernel_rfl)) (by kernel_rfl)) (by kernel_rfl)) (by rw [hlb]; decide)) id
      rw [if_neg (by rw [hs2]; decide)] at hW
      rw [if_pos hs1] at hW
      have hB := hW.1
      clear hcl hneed hclo
      intro Q2 K2 hK2
      simp only [XInv.puts, XPrint.pw]
      go_simp
      exact hK2.out (.bool true) w' ⟨bq, rfl, (by intros; first | rfl | trivial), (by rw [if_neg (by simp [XInv.up, hs2])]; rw [if_pos (by simp [XInv.up, hs1])]; exact hW)⟩
    · refine XInv.yes_tab [(127, 50), (121, 44)] (by kernel_rfl) ?_
      have hs0 := (hclo 11 10 (by decide) (hclo 13 11 (by decide) (hclo 17 13 (by decide) (hclo 21 17 (by decide) (hclo 25 21 (by decide) (hclo 29 25 (by decide) (hclo 31 29 (by decide) (hclo 35 31 (by decide) (hclo 39 35 (by decide) (hclo 44 39 (by decide) (hneed 44 (by kernel_rfl)) (by kernel_rfl)) (by kernel_rfl)) (by kernel_rfl)) (by kernel_rfl)) (by kernel_rfl)) (by kernel_rfl)) (by kernel_rfl)) (by kernel_rfl)) (by kernel_rfl)) (by kernel_rfl))
      have hs1 := (hclo 29 28 (by decide) (hclo 31 29 (by decide) (hclo 35 31 (by decide) (hclo 39 35 (by decide) (hclo 44 39 (by decide) (hneed 44 (by kernel_rfl)) (by kernel_rfl)) (by kernel_rfl)) (by kernel_rfl)) (by kernel_rfl)) (by kernel_rfl))
      have hs2 : lb 73 = false := (Bool.eq_false_or_eq_true (lb 73)).elim (fun h => absurd (hclo 55 51 (by decide) (hclo 60 55 (by decide) (hclo 67 60 (by decide) (hclo 71 67 (by decide) (hclo 73 71 (by decide) h (by kernel_rfl)) (by kernel_rfl)) (by kernel_rfl)) (by kernel_rfl)) (by kernel_rfl)) (by rw [hlb]; decide)) id
      rw [if_neg (by rw [hs2]; decide)] at hW
      rw [if_pos hs1] at hW
      have hB := hW.1
      clear hcl hneed hclo
      intro Q2 K2 hK2
      simp only [XInv.puts, XPrint.pw]
      go_simp
      exact hK2.out (.bool true) w' ⟨bq, rfl, (by intros; first | rfl | trivial), (by rw [if_neg (by simp [XInv.up, hs2])]; rw [if_pos (by simp [XInv.up, hs1])]; exact hW)⟩
    · refine XInv.yes_tab [(128, 51)] (by kernel_rfl) ?_
      have hs0 := (hclo 11 10 (by decide) (hclo 13 11 (by decide) (hclo 17 13 (by decide) (hclo 21 17 (by decide) (hclo 25 21 (by decide) (hclo 29 25 (by decide) (hclo 31 29 (by decide) (hclo 35 31 (by decide) (hclo 39 35 (by decide) (hclo 44 39 (by decide) (hclo 51 44 (by decide) (hneed 51 (by kernel_rfl)) (by kernel_rfl)) (by kernel_rfl)) (by kernel_rfl)) (by kernel_rfl)) (by kernel_rfl)) (by kernel_rfl)) (by kernel_rfl)) (by kernel_rfl)) (by kernel_rfl)) (by kernel_rfl)) (by kernel_rfl))
      have hs1 := (hclo 29 28 (by decide) (hclo 31 29 (by decide) (hclo 35 31 (by decide) (hclo 39 35 (by decide) (hclo 44 39 (by decide) (hclo 51 44 (by decide) (hneed 51 (by kernel_rfl)) (by kernel_rfl)) (by kernel_rfl)) (by kernel_rfl)) (by kernel_rfl)) (by kernel_rfl)) (by kernel_rfl))
      have hs2 : lb 73 = false := (Bool.eq_false_or_eq_true (lb 73)).elim (fun h => absurd (hclo 53 52 (by decide) (hclo 54 53 (by decide) (hclo 55 54 (by decide) (hclo 60 55 (by decide) (hclo 67 60 (by decide) (hclo 71 67 (by decide) (hclo 73 71 (by decide) h (by kernel_rfl)) (by kernel_rfl)) (by kernel_rfl)) (by kernel_rfl)) (by kernel_rfl)) (by kernel_rfl)) (by kernel_rfl)) (by rw [hlb]; decide)) id
      rw [if_neg (by rw [hs2]; decide)] at hW
      rw [if_pos hs1] at hW
      have hB := hW.1
      clear hcl hneed hclo
      intro Q2 K2 hK2
      simp only [XInv.puts, XPrint.pw]
      go_simp
      exact hK2.out (.int .i64 0) w' ⟨bq, rfl, (by intros; first | rfl | trivial), (by rw [if_neg (by simp [XInv.up, hs2])]; rw [if_pos (by simp [XInv.up, hs1])]; exact hW)⟩
    · refine XInv.yes_tab [(129, 52), (128, 51)] (by kernel_rfl) ?_
      have hs0 := (hclo 11 10 (by decide) (hclo 13 11 (by decide) (hclo 17 13 (by decide) (hclo 21 17 (by decide) (hclo 25 21 (by decide) (hclo 29 25 (by decide) (hclo 31 29 (by decide) (hclo 35 31 (by decide) (hclo 39 35 (by decide) (hclo 44 39 (by decide) (hclo 51 44 (by decide) (hneed 51 (by kernel_rfl)) (by kernel_rfl)) (by kernel_rfl)) (by kernel_rfl)) (by kernel_rfl)) (by kernel_rfl)) (by kernel_rfl)) (by kernel_rfl)) (by kernel_rfl)) (by kernel_rfl)) (by kernel_rfl)) (by kernel_rfl))
      have hs1 := (hclo 29 28 (by decide) (hclo 31 29 (by decide) (hclo 35 31 (by decide) (hclo 39 35 (by decide) (hclo 44 39 (by decide) (hclo 51 44 (by decide) (hneed 51 (by kernel_rfl)) (by kernel_rfl)) (by kernel_rfl)) (by kernel_rfl)) (by kernel_rfl)) (by kernel_rfl)) (by kernel_rfl))
      have hs2 : lb 73 = false := (Bool.eq_false_or_eq_true (lb 73)).elim (fun h => absurd (hclo 54 53 (by decide) (hclo 55 54 (by decide) (hclo 60 55 (by decide) (hclo 67 60 (by decide) (hclo 71 67 (by decide) (hclo 73 71 (by decide) h (by kernel_rfl)) (by kernel_rfl)) (by kernel_rfl)) (by kernel_rfl)) (by kernel_rfl)) (by kernel_rfl)) (by rw [hlb]; decide)) id
      rw [if_neg (by rw [hs2]; decide)] at hW
      rw [if_pos hs1] at hW
      have hB := hW.1
      clear hcl hneed hclo
      intro Q2 K2 hK2
      simp only [XInv.puts, XPrint.pw]
      go_simp
      exact hK2.out (.bool true) w' ⟨bq, rfl, (by intros; first | rfl | trivial), (by rw [if_neg (by simp [XInv.up, hs2])]; rw [if_pos (by simp [XInv.up, hs1])]; exact hW)⟩
    · refine XInv.yes_tab [(130, 53), (128, 51)] (by kernel_rfl) ?_
      have hs0 := (hclo 11 10 (by decide) (hclo 13 11 (by decide) (hclo 17 13 (by decide) (hclo 21 17 (by decide) (hclo 25 21 (by decide) (hclo 29 25 (by decide) (hclo 31 29 (by decide) (hclo 35 31 (by decide) (hclo 39 35 (by decide) (hclo 44 39 (by decide) (hclo 51 44 (by decide) (hneed 51 (by kernel_rfl)) (by kernel_rfl)) (by kernel_rfl)) (by kernel_rfl)) (by kernel_rfl)) (by kernel_rfl)) (by kernel_rfl)) (by kernel_rfl)) (by kernel_rfl)) (by kernel_rfl)) (by kernel_rfl)) (by kernel_rfl))
      have hs1 := (hclo 29 28 (by decide) (hclo 31 29 (by decide) (hclo 35 31 (by decide) (hclo 39 35 (by decide) (hclo 44 39 (by decide) (hclo 51 44 (by decide) (hneed 51 (by kernel_rfl)) (by kernel_rfl)) (by kernel_rfl)) (by kernel_rfl)) (by kernel_rfl)) (by kernel_rfl)) (by kernel_rfl))
      have hs2 : lb 73 = false := (Bool.eq_false_or_eq_true (lb 73)).elim (fun h => absurd (hclo 55 54 (by decide) (hclo 60 55 (by decide) (hclo 67 60 (by decide) (hclo 71 67 (by decide) (hclo 73 71 (by decide) h (by kernel_rfl)) (by kernel_rfl)) (by kernel_rfl)) (by kernel_rfl)) (by kernel_rfl)) (by rw [hlb]; decide)) id
      rw [if_neg (by rw [hs2]; decide)] at hW
      rw [if_pos hs1] at hW
      have hB := hW.1
      clear hcl hneed hclo
      intro Q2 K2 hK2
      simp only [XInv.puts, XPrint.pw]
      go_simp
      exact hK2.out (.bool true) w' ⟨bq, rfl, (by intros; first | rfl | trivial), (by rw [if_neg (by simp [XInv.up, hs2])]; rw [if_pos (by simp [XInv.up, hs1])]; exact hW)⟩
    · refine XInv.yes_tab [(131, 54), (128, 51)] (by kernel_rfl) ?_
      have hs0 := (hclo 11 10 (by decide) (hclo 13 11 (by decide) (hclo 17 13 (by decide) (hclo 21 17 (by decide) (hclo 25 21 (by decide) (hclo 29 25 (by decide) (hclo 31 29 (by decide) (hclo 35 31 (by decide) (hclo 39 35 (by decide) (hclo 44 39 (by decide) (hclo 51 44 (by decide) (hneed 51 (by kernel_rfl)) (by kernel_rfl)) (by kernel_rfl)) (by kernel_rfl)) (by kernel_rfl)) (by kernel_rfl)) (by kernel_rfl)) (by kernel_rfl)) (by kernel_rfl)) (by kernel_rfl)) (by kernel_rfl)) (by kernel_rfl))
      have hs1 := (hclo 29 28 (by decide) (hclo 31 29 (by decide) (hclo 35 31 (by decide) (hclo 39 35 (by decide) (hclo 44 39 (by decide) (hclo 51 44 (by decide) (hneed 51 (by kernel_rfl)) (by kernel_rfl)) (by kernel_rfl)) (by kernel_rfl)) (by kernel_rfl)) (by kernel_rfl)) (by kernel_rfl))
      have hs2 : lb 73 = false := (Bool.eq_false_or_eq_true (lb 73)).elim (fun h => absurd (hclo 60 55 (by decide) (hclo 67 60 (by decide) (hclo 71 67 (by decide) (hclo 73 71 (by decide) h (by kernel_rfl)) (by kernel_rfl)) (by kernel_rfl)) (by kernel_rfl)) (by rw [hlb]; decide)) id
      rw [if_neg (by rw [hs2]; decide)] at hW
      rw [if_pos hs1] at hW
      have hB := hW.1
      clear hcl hneed hclo
      intro Q2 K2 hK2
      simp only [XInv.puts, XPrint.pw]
      go_simp
      exact hK2.out (.bool true) w' ⟨bq, rfl, (by intros; first | rfl | trivial), (by rw [if_neg (by simp [XInv.up, hs2])]; rw [if_pos (by simp [XInv.up, hs1])]; exact hW)⟩
    · refine XInv.yes_tab [(132, 55)] (by kernel_rfl) ?_
      have hs0 := (hclo 11 10 (by decide) (hclo 13 11 (by decide) (hclo 17 13 (by decide) (hclo 21 17 (by decide) (hclo 25 21 (by decide) (hclo 29 25 (by decide) (hclo 31 29 (by decide) (hclo 35 31 (by decide) (hclo 39 35 (by decide) (hclo 44 39 (by decide) (hclo 51 44 (by decide) (hclo 55 51 (by decide) (hneed 55 (by kernel_rfl)) (by kernel_rfl)) (by kernel_rfl)) (by kernel_rfl)) (by kernel_rfl)) (by kernel_rfl)) (by kernel_rfl)) (by kernel_rfl)) (by kernel_rfl)) (by kernel_rfl)) (by kernel_rfl)) (by kernel_rfl)) (by kernel_rfl))
      have hs1 := (hclo 29 28 (by decide) (hclo 31 29 (by decide) (hclo 35 31 (by decide) (hclo 39 35 (by decide) (hclo 44 39 (by decide) (hclo 51 44 (by decide) (hclo 55 51 (by decide) (hneed 55 (by kernel_rfl)) (by kernel_rfl)) (by kernel_rfl)) (by kernel_rfl)) (by kernel_rfl)) (by kernel_rfl)) (by kernel_rfl)) (by kernel_rfl))
      have hs2 : lb 73 = false := (Bool.eq_false_or_eq_true (lb 73)).elim (fun h => absurd (hclo 57 56 (by decide) (hclo 58 57 (by decide) (hclo 59 58 (by decide) (hclo 60 59 (by decide) (hclo 67 60 (by decide) (hclo 71 67 (by decide) (hclo 73 71 (by decide) h (by kernel_rfl)) (by kernel_rfl)) (by kernel_rfl)) (by kernel_rfl)) (by kernel_rfl)) (by kernel_rfl)) (by kernel_rfl)) (by rw [hlb]; decide)) id
      rw [if_neg (by rw [hs2]; decide)] at hW
      rw [if_pos hs1] at hW
      have hB := hW.1
      clear hcl hneed hclo
      intro Q2 K2 hK2
      simp only [XInv.puts, XPrint.pw]
      go_simp
      exact hK2.out (.slice (some a5) 1 c5) w' ⟨bq, rfl, (by intros; first | rfl | trivial), (by rw [if_neg (by simp [XInv.up, hs2])]; rw [if_pos (by simp [XInv.up, hs1])]; exact hW)⟩
    · refine XInv.yes_tab [(133, 56), (132, 55)] (by kernel_rfl) ?_
      have hs0 := (hclo 11 10 (by decide) (hclo 13 11 (by decide) (hclo 17 13 (by decide) (hclo 21 17 (by decide) (hclo 25 21 (by decide) (hclo 29 25 (by decide) (hclo 31 29 (by decide) (hclo 35 31 (by decide) (hclo 39 35 (by decide) (hclo 44 39 (by decide) (hclo 51 44 (by decide) (hclo 55 51 (by decide) (hneed 55 (by kernel_rfl)) (by kernel_rfl)) (by kernel_rfl)) (by kernel_rfl)) (by kernel_rfl)) (by kernel_rfl)) (by kernel_rfl)) (by kernel_rfl)) (by kernel_rfl)) (by kernel_rfl)) (by kernel_rfl)) (by kernel_rfl)) (by kernel_rfl))
      have hs1 := (hclo 29 28 (by decide) (hclo 31 29 (by decide) (hclo 35 31 (by decide) (hclo 39 35 (by decide) (hclo 44 39 (by decide) (hclo 51 44 (by decide) (hclo 55 51 (by decide) (hneed 55 (by kernel_rfl)) (by kernel_rfl)) (by kernel_rfl)) (by kernel_rfl)) (by kernel_rfl)) (by kernel_rfl)) (by kernel_rfl)) (by kernel_rfl))
      have hs2 : lb 73 = false := (Bool.eq_false_or_eq_true (lb 73)).elim (fun h => absurd (hclo 58 57 (by decide) (hclo 59 58 (by decide) (hclo 60 59 (by decide) (hclo 67 60 (by decide) (hclo 71 67 (by decide) (hclo 73 71 (by decide) h (by kernel_rfl)) (by kernel_rfl)) (by kernel_rfl)) (by kernel_rfl)) (by kernel_rfl)) (by kernel_rfl)) (by rw [hlb]; decide)) id
      rw [if_neg (by rw [hs2]; decide)] at hW
      rw [if_pos hs1] at hW
      have hB := hW.1
      clear hcl hneed hclo
      intro Q2 K2 hK2
      simp only [XInv.puts, XPrint.pw]
      go_simp
      exact hK2.out (.int .i64 1) w' ⟨bq, rfl, (by intros; first | rfl | trivial), (by rw [if_neg (by simp [XInv.up, hs2])]; rw [if_pos (by simp [XInv.up, hs1])]; exact hW)⟩
    · refine XInv.yes_tab [(134, 57), (132, 55)] (by kernel_rfl) ?_
      have hs0 := (hclo 11 10 (by decide) (hclo 13 11 (by decide) (hclo 17 13 (by decide) (hclo 21 17 (by decide) (hclo 25 21 (by decide) (hclo 29 25 (by decide) (hclo 31 29 (by decide) (hclo 35 31 (by decide) (hclo 39 35 (by decide) (hclo 44 39 (by decide) (hclo 51 44 (by decide) (hclo 55 51 (by decide) (hneed 55 (by kernel_rfl)) (by kernel_rfl)) (by kernel_rfl)) (by kernel_rfl)) (by kernel_rfl)) (by kernel_rfl)) (by kernel_rfl)) (by kernel_rfl)) (by kernel_rfl)) (by kernel_rfl)) (by kernel_rfl)) (by kernel_rfl)) (by kernel_rfl))
      have hs1 := (hclo 29 28 (by decide) (hclo 31 29 (by decide) (hclo 35 31 (by decide) (hclo 39 35 (by decide) (hclo 44 39 (by decide) (hclo 51 44 (by decide) (hclo 55 51 (by decide) (hneed 55 (by kernel_rfl)) (by kernel_rfl)) (by kernel_rfl)) (by kernel_rfl)) (by kernel_rfl)) (by kernel_rfl)) (by kernel_rfl)) (by kernel_rfl))
      have hs2 : lb 73 = false := (Bool.eq_false_or_eq_true (lb 73)).elim (fun h => absurd (hclo 59 58 (by decide) (hclo 60 59 (by decide) (hclo 67 60 (by decide) (hclo 71 67 (by decide) (hclo 73 71 (by decide) h (by kernel_rfl)) (by kernel_rfl)) (by kernel_rfl)) (by kernel_rfl)) (by kernel_rfl)) (by rw [hlb]; decide)) id
      rw [if_neg (by rw [hs2]; decide)] at hW
      rw [if_pos hs1] at hW
      have hB := hW.1
      clear hcl hneed hclo
      intro Q2 K2 hK2
      simp only [XInv.puts, XPrint.pw]
      go_simp
      exact hK2.out (.bool true) w' ⟨bq, rfl, (by intros; first | rfl | trivial), (by rw [if_neg (by simp [XInv.up, hs2])]; rw [if_pos (by simp [XInv.up, hs1])]; exact hW)⟩
    · refine XInv.yes_tab [(135, 58), (132, 55)] (by kernel_rfl) ?_
      have hs0 := (hclo 11 10 (by decide) (hclo 13 11 (by decide) (hclo 17 13 (by decide) (hclo 21 17 (by decide) (hclo 25 21 (by decide) (hclo 29 25 (by decide) (hclo 31 29 (by decide) (hclo 35 31 (by decide) (hclo 39 35 (by decide) (hclo 44 39 (by decide) (hclo 51 44 (by decide) (hclo 55 51 (by decide) (hneed 55 (by kernel_rfl)) (by kernel_rfl)) (by kernel_rfl)) (by kernel_rfl)) (by kernel_rfl)) (by kernel_rfl)) (by kernel_rfl)) (by kernel_rfl)) (by kernel_rfl)) (by kernel_rfl)) (by kernel_rfl)) (by kernel_rfl)) (by kernel_rfl))
      have hs1 := (hclo 29 28 (by decide) (hclo 31 29 (by decide) (hclo 35 31 (by decide) (hclo 39 35 (by decide) (hclo 44 39 (by decide) (hclo 51 44 (by decide) (hclo 55 51 (by decide) (hneed 55 (by kernel_rfl)) (by kernel_rfl)) (by kernel_rfl)) (by kernel_rfl)) (by kernel_rfl)) (by kernel_rfl)) (by kernel_rfl)) (by kernel_rfl))
      have hs2 : lb 73 = false := (Bool.eq_false_or_eq_true (lb 73)).elim (fun h => absurd (hclo 60 59 (by decide) (hclo 67 60 (by decide) (hclo 71 67 (by decide) (hclo 73 71 (by decide) h (by kernel_rfl)) (by kernel_rfl)) (by kernel_rfl)) (by kernel_rfl)) (by rw [hlb]; decide)) id
      rw [if_neg (by rw [hs2]; decide)] at hW
      rw [if_pos hs1] at hW
      have hB := hW.1
      clear hcl hneed hclo
      intro Q2 K2 hK2
      simp only [XInv.puts, XPrint.pw]
      go_simp
      exact hK2.out (.bool true) w' ⟨bq, rfl, (by intros; first | rfl | trivial), (by rw [if_neg (by simp [XInv.up, hs2])]; rw [if_pos (by simp [XInv.up, hs1])]; exact hW)⟩
    · refine XInv.yes_tab [(136, 59), (132, 55)] (by kernel_rfl) ?_
      have hs0 := (hclo 11 10 (by decide) (hclo 13 11 (by decide) (hclo 17 13 (by decide) (hclo 21 17 (by decide) (hclo 25 21 (by decide) (hclo 29 25 (by decide) (hclo 31 29 (by decide) (hclo 35 31 (by decide) (hclo 39 35 (by decide) (hclo 44 39 (by decide) (hclo 51 44 (by decide) (hclo 55 51 (by decide) (hneed 55 (by kernel_rfl)) (by kernel_rfl)) (by kernel_rfl)) (by kernel_rfl)) (by kernel_rfl)) (by kernel_rfl)) (by kernel_rfl)) (by kernel_rfl)) (by kernel_rfl)) (by kernel_rfl)) (by kernel_rfl)) (by kernel_rfl)) (by kernel_rfl))
      have hs1 := (hclo 29 28 (by decide) (hclo 31 29 (by decide) (hclo 35 31 (by decide) (hclo 39 35 (by decide) (hclo 44 39 (by decide) (hclo 51 44 (by decide) (hclo 55 51 (by decide) (hneed 55 (by kernel_rfl)) (by kernel_rfl)) (by kernel_rfl)) (by kernel_rfl)) (by kernel_rfl)) (by kernel_rfl)) (by kernel_rfl)) (by kernel_rfl))
      have hs2 : lb 73 = false := (Bool.eq_false_or_eq_true (lb 73)).elim (fun h => absurd (hclo 67 60 (by decide) (hclo 71 67 (by decide) (hclo 73 71 (by decide) h (by kernel_rfl)) (by kernel_rfl)) (by kernel_rfl)) (by rw [hlb]; decide)) id
      rw [if_neg (by rw [hs2]; decide)] at hW
      rw [if_pos hs1] at hW
      have hB := hW.1
      clear hcl hneed hclo
      intro Q2 K2 hK2
      simp only [XInv.puts, XPrint.pw]
      go_simp
      exact hK2.out (.bool true) w' ⟨bq, rfl, (by intros; first | rfl | trivial), (by rw [if_neg (by simp [XInv.up, hs2])]; rw [if_pos (by simp [XInv.up, hs1])]; exact hW)⟩
    · refine XInv.yes_tab [(137, 60)] (by kernel_rfl) ?_
      have hs0 := (hclo 11 10 (by decide) (hclo 13 11 (by decide) (hclo 17 13 (by decide) (hclo 21 17 (by decide) (hclo 25 21 (by decide) (hclo 29 25 (by decide) (hclo 31 29 (by decide) (hclo 35 31 (by decide) (hclo 39 35 (by decide) (hclo 44 39 (by decide) (hclo 51 44 (by decide) (hclo 55 51 (by decide) (hclo 60 55 (by decide) (hneed 60 (by kernel_rfl)) (by kernel_rfl)) (by kernel_rfl)) (by kernel_rfl)) (by kernel_rfl)) (by kernel_rfl)) (by kernel_rfl)) (by kernel_rfl)) (by kernel_rfl)) (by kernel_rfl)) (by kernel_rfl)) (by kernel_rfl)) (by kernel_rfl)) (by kernel_rfl))
      have hs1 := (hclo 29 28 (by decide) (hclo 31 29 (by decide) (hclo 35 31 (by decide) (hclo 39 35 (by decide) (hclo 44 39 (by decide) (hclo 51 44 (by decide) (hclo 55 51 (by decide) (hclo 60 55 (by decide) (hneed 60 (by kernel_rfl)) (by kernel_rfl)) (by kernel_rfl)) (by kernel_rfl)) (by kernel_rfl)) (by kernel_rfl)) (by kernel_rfl)) (by kernel_rfl)) (by kernel_rfl))
      have hs2 : lb 73 = false := (Bool.eq_false_or_eq_true (lb 73)).elim (fun h => absurd (hclo 62 61 (by decide) (hclo 63 62 (by decide) (hclo 64 63 (by decide) (hclo 65 64 (by decide) (hclo 66 65 (by decide) (hclo 67 66 (by decide) (hclo 71 67 (by decide) (hclo 73 71 (by decide) h (by kernel_rfl)) (by kernel_rfl)) (by kernel_rfl)) (by kernel_rfl)) (by kernel_rfl)) (by kernel_rfl)) (by kernel_rfl)) (by kernel_rfl)) (by rw [hlb]; decide)) id
      rw [if_neg (by rw [hs2]; decide)] at hW
      rw [if_pos hs1] at hW
      have hB := hW.1
      clear hcl hneed hclo
      intro Q2 K2 hK2
      simp only [XInv.puts, XPrint.pw]
      go_simp
      exact hK2.out (.slice (some a5) 1 c5) w' ⟨bq, rfl, (by intros; first | rfl | trivial), (by rw [if_neg (by simp [XInv.up, hs2])]; rw [if_pos (by simp [XInv.up, hs1])]; exact hW)⟩
    · refine XInv.yes_tab [(138, 61), (137, 60)] (by kernel_rfl) ?_
      have hs0 := (hclo 11 10 (by decide) (hclo 13 11 (by decide) (hclo 17 13 (by decide) (hclo 21 17 (by decide) (hclo 25 21 (by decide) (hclo 29 25 (by decide) (hclo 31 29 (by decide) (hclo 35 31 (by decide) (hclo 39 35 (by decide) (hclo 44 39 (by decide) (hclo 51 44 (by decide) (hclo 55 51 (by decide) (hclo 60 55 (by decide) (hneed 60 (by kernel_rfl)) (by kernel_rfl)) (by kernel_rfl)) (by kernel_rfl)) (by kernel_rfl)) (by kernel_rfl)) (by kernel_rfl)) (by kernel_rfl)) (by kernel_rfl)) (by kernel_rfl)) (by kernel_rfl)) (by kernel_rfl)) (by kernel_rfl)) (by kernel_rfl))
      have hs1 := (hclo 29 28 (by decide) (hclo 31 29 (by decide) (hclo 35 31 (by decide) (hclo 39 35 (by decide) (hclo 44 39 (by decide) (hclo 51 44 (by decide) (hclo 55 51 (by decide) (hclo 60 55 (by decide) (hneed 60 (by kernel_rfl)) (by kernel_rfl)) (by kernel_rfl)) (by kernel_rfl)) (by kernel_rfl)) (by kernel_rfl)) (by kernel_rfl)) (by kernel_rfl)) (by kernel_rfl))
      have hs2 : lb 73 = false := (Bool.eq_false_or_eq_true (lb 73)).elim (fun h => absurd (hclo 63 62 (by decide) (hclo 64 63 (by decide) (hclo 65 64 (by decide) (hclo 66 65 (by decide) (hclo 67 66 (by decide) (hclo 71 67 (by decide) (hclo 73 71 (by decide) h (by kernel_rfl)) (by kernel_rfl)) (by kernel_rfl)) (by kernel_rfl)) (by kernel_rfl)) (by kernel_rfl)) (by kernel_rfl)) (by rw [hlb]; decide)) id
      rw [if_neg (by rw [hs2]; decide)] at hW
      rw [if_pos hs1] at hW
      have hB := hW.1
      clear hcl hneed hclo
      intro Q2 K2 hK2
      simp only [XInv.puts, XPrint.pw]
      go_simp
      exact hK2.out (.pointer (some a5)) w' ⟨bq, rfl, (by intros; first | rfl | trivial), (by rw [if_neg (by simp [XInv.up, hs2])]; rw [if_pos (by simp [XInv.up, hs1])]; exact hW)⟩
    · refine XInv.yes_tab [(139, 62), (137, 60)] (by kernel_rfl) ?_
      have hs0 := (hclo 11 10 (by decide) (hclo 13 11 (by decide) (hclo 17 13 (by decide) (hclo 21 17 (by decide) (hclo 25 21 (by decide) (hclo 29 25 (by decide) (hclo 31 29 (by decide) (hclo 35 31 (by decide) (hclo 39 35 (by decide) (hclo 44 39 (by decide) (hclo 51 44 (by decide) (hclo 55 51 (by decide) (hclo 60 55 (by decide) (hneed 60 (by kernel_rfl)) (by kernel_rfl)) (by kernel_rfl)) (by kernel_rfl)) (by kernel_rfl)) (by kernel_rfl)) (by kernel_rfl)) (by kernel_rfl)) (by kernel_rfl)) (by kernel_rfl)) (by kernel_rfl)) (by kernel_rfl)) (by kernel_rfl)) (by kernel_rfl))
      have hs1 := (hclo 29 28 (by decide) (hclo 31 29 (by decide) (hclo 35 31 (by decide) (hclo 39 35 (by decide) (hclo 44 39 (by decide) (hclo 51 44 (by decide) (hclo 55 51 (by decide) (hclo 60 55 (by decide) (hneed 60 (by kernel_rfl)) (by kernel_rfl)) (by kernel_rfl)) (by kernel_rfl)) (by kernel_rfl)) (by kernel_rfl)) (by kernel_rfl)) (by kernel_rfl)) (by kernel_rfl))
      have hs2 : lb 73 = false := (Bool.eq_false_or_eq_true (lb 73)).elim (fun h => absurd (hclo 64 63 (by decide) (hclo 65 64 (by decide) (hclo 66 65 (by decide) (hclo 67 66 (by decide) (hclo 71 67 (by decide) (hclo 73 71 (by decide) h (by kernel_rfl)) (by kernel_rfl)) (by kernel_rfl)) (by kernel_rfl)) (by kernel_rfl)) (by kernel_rfl)) (by rw [hlb]; decide)) id
      rw [if_neg (by rw [hs2]; decide)] at hW
      rw [if_pos hs1] at hW
      have hB := hW.1
      clear hcl hneed hclo
      intro Q2 K2 hK2
      simp only [XInv.puts, XPrint.pw]
      go_simp
      exact hK2.out (.pointer (some a5)) w' ⟨bq, rfl, (by intros; first | rfl | trivial), (by rw [if_neg (by simp [XInv.up, hs2])]; rw [if_pos (by simp [XInv.up, hs1])]; exact hW)⟩
    · refine XInv.yes_tab [(140, 63), (137, 60)] (by kernel_rfl) ?_
      have hs0 := (hclo 11 10 (by decide) (hclo 13 11 (by decide) (hclo 17 13 (by decide) (hclo 21 17 (by decide) (hclo 25 21 (by decide) (hclo 29 25 (by decide) (hclo 31 29 (by decide) (hclo 35 31 (by decide) (hclo 39 35 (by decide) (hclo 44 39 (by decide) (hclo 51 44 (by decide) (hclo 55 51 (by decide) (hclo 60 55 (by decide) (hneed 60 (by kernel_rfl)) (by kernel_rfl)) (by kernel_rfl)) (by kernel_rfl)) (by kernel_rfl)) (by kernel_rfl)) (by kernel_rfl)) (by kernel_rfl)) (by kernel_rfl)) (by kernel_rfl)) (by kernel_rfl)) (by kernel_rfl)) (by kernel_rfl)) (by kernel_rfl))
      have hs1 := (hclo 29 28 (by decide) (hclo 31 29 (by decide) (hclo 35 31 (by decide) (hclo 39 35 (by decide) (hclo 44 39 (by decide) (hclo 51 44 (by decide) (hclo 55 51 (by decide) (hclo 60 55 (by decide) (hneed 60 (by kernel_rfl)) (by kernel_rfl)) (by kernel_rfl)) (by kernel_rfl)) (by kernel_rfl)) (by kernel_rfl)) (by kernel_rfl)) (by kernel_rfl)) (by kernel_rfl))
      have hs2 : lb 73 = false := (Bool.eq_false_or_eq_true (lb 73)).elim (fun h => absurd (hclo 65 64 (by decide) (hclo 66 65 (by decide) (hclo 67 66 (by decide) (hclo 71 67 (by decide) (hclo 73 71 (by decide) h (by kernel_rfl)) (by kernel_rfl)) (by kernel_rfl)) (by kernel_rfl)) (by kernel_rfl)) (by rw [hlb]; decide)) id
      rw [if_neg (by rw [hs2]; decide)] at hW
      rw [if_pos hs1] at hW
      have hB := hW.1
      clear hcl hneed hclo
      intro Q2 K2 hK2
      simp only [XInv.puts, XPrint.pw]
      have i0 := pw_cell_below hB IJ.out.1
      have j0 := pw_cell_below hB IJ.out.2
      go_simp
      exact hK2.out (.int .u32 3) w' ⟨bq, rfl, (by intros; first | rfl | trivial), (by rw [if_neg (by simp [XInv.up, hs2])]; rw [if_pos (by simp [XInv.up, hs1])]; exact hW)⟩
    · refine XInv.yes_tab [(141, 64), (137, 60)] (by kernel_rfl) ?_
      have hs0 := (hclo 11 10 (by decide) (hclo 13 11 (by decide) (hclo 17 13 (by decide) (hclo 21 17 (by decide) (hclo 25 21 (by decide) (hclo 29 25 (by decide) (hclo 31 29 (by decide) (hclo 35 31 (by decide) (hclo 39 35 (by decide) (hclo 44 39 (by decide) (hclo 51 44 (by decide) (hclo 55 51 (by decide) (hclo 60 55 (by decide) (hneed 60 (by kernel_rfl)) (by kernel_rfl)) (by kernel_rfl)) (by kernel_rfl)) (by kernel_rfl)) (by kernel_rfl)) (by kernel_rfl)) (by kernel_rfl)) (by kernel_rfl)) (by kernel_rfl)) (by kernel_rfl)) (by kernel_rfl)) (by kernel_rfl)) (by kernel_rfl))
      have hs1 := (hclo 29 28 (by decide) (hclo 31 29 (by decide) (hclo 35 31 (by decide) (hclo 39 35 (by decide) (hclo 44 39 (by decide) (hclo 51 44 (by decide) (hclo 55 51 (by decide) (hclo 60 55 (by decide) (hneed 60 (by kernel_rfl)) (by kernel_rfl)) (by kernel_rfl)) (by kernel_rfl)) (by kernel_rfl)) (by kernel_rfl)) (by kernel_rfl)) (by kernel_rfl)) (by kernel_rfl))
      have hs2 : lb 73 = false := (Bool.eq_false_or_eq_true (lb 73)).elim (fun h => absurd (hclo 66 65 (by decide) (hclo 67 66 (by decide) (hclo 71 67 (by decide) (hclo 73 71 (by decide) h (by kernel_rfl)) (by kernel_rfl)) (by kernel_rfl)) (by kernel_rfl)) (by rw [hlb]; decide)) id
      rw [if_neg (by rw [hs2]; decide)] at hW
      rw [if_pos hs1] at hW
      have hB := hW.1
      clear hcl hneed hclo
      intro Q2 K2 hK2
      simp only [XInv.puts, XPrint.pw]
      go_simp
      exact hK2.out (.bool true) w' ⟨bq, rfl, (by intros; first | rfl | trivial), (by rw [if_neg (by simp [XInv.up, hs2])]; rw [if_pos (by simp [XInv.up, hs1])]; exact hW)⟩
    · refine XInv.yes_tab [(142, 65), (137, 60)] (by kernel_rfl) ?_
      have hs0 := (hclo 11 10 (by decide) (hclo 13 11 (by decide) (hclo 17 13 (by decide) (hclo 21 17 (by decide) (hclo 25 21 (by decide) (hclo 29 25 (by decide) (hclo 31 29 (by decide) (hclo 35 31 (by decide) (hclo 39 35 (by decide) (hclo 44 39 (by decide) (hclo 51 44 (by decide) (hclo 55 51 (by decide) (hclo 60 55 (by decide) (hneed 60 (by kernel_rfl)) (by kernel_rfl)) (by kernel_rfl)) (by kernel_rfl)) (by kernel_rfl)) (by kernel_rfl)) (by kernel_rfl)) (by kernel_rfl)) (by kernel_rfl)) (by kernel_rfl)) (by kernel_rfl)) (by kernel_rfl)) (by kernel_rfl)) (by kernel_rfl))
      have hs1 := (hclo 29 28 (by decide) (hclo 31 29 (by decide) (hclo 35 31 (by decide) (hclo 39 35 (by decide) (hclo 44 39 (by decide) (hclo 51 44 (by decide) (hclo 55 51 (by decide) (hclo 60 55 (by decide) (hneed 60 (by kernel_rfl)) (by kernel_rfl)) (by kernel_rfl)) (by kernel_rfl)) (by kernel_rfl)) (by kernel_rfl)) (by kernel_rfl)) (by kernel_rfl)) (by kernel_rfl))
      have hs2 : lb 73 = false := (Bool.eq_false_or_eq_true (lb 73)).elim (fun h => absurd (hclo 67 66 (by decide) (hclo 71 67 (by decide) (hclo 73 71 (by decide) h (by kernel_rfl)) (by kernel_rfl)) (by kernel_rfl)) (by rw [hlb]; decide)) id
      rw [if_neg (by rw [hs2]; decide)] at hW
      rw [if_pos hs1] at hW
      have hB := hW.1
      clear hcl hneed hclo
      intro Q2 K2 hK2
      simp only [XInv.puts, XPrint.pw]
      go_simp
      exact hK2.out (.bool true) w' ⟨bq, rfl, (by intros; first | rfl | trivial), (by rw [if_neg (by simp [XInv.up, hs2])]; rw [if_pos (by simp [XInv.up, hs1])]; exact hW)⟩
    · refine XInv.yes_tab [(143, 66), (137, 60)] (by kernel_rfl) ?_
      have hs0 := (hclo 11 10 (by decide) (hclo 13 11 (by decide) (hclo 17 13 (by decide) (hclo 21 17 (by decide) (hclo 25 21 (by decide) (hclo 29 25 (by decide) (hclo 31 29 (by decide) (hclo 35 31 (by decide) (hclo 39 35 (by decide) (hclo 44 39 (by decide) (hclo 51 44 (by decide) (hclo 55 51 (by decide) (hclo 60 55 (by decide) (hneed 60 (by kernel_rfl)) (by kernel_rfl)) (by kernel_rfl)) (by kernel_rfl)) (by kernel_rfl)) (by kernel_rfl)) (by kernel_rfl)) (by kernel_rfl)) (by kernel_rfl)) (by kernel_rfl)) (by kernel_rfl)) (by kernel_rfl)) (by kernel_rfl)) (by kernel_rfl))
      have hs1 := (hclo 29 28 (by decide) (hclo 31 29 (by decide) (hclo 35 31 (by decide) (hclo 39 35 (by decide) (hclo 44 39 (by decide) (hclo 51 44 (by decide) (hclo 55 51 (by decide) (hclo 60 55 (by decide) (hneed 60 (by kernel_rfl)) (by kernel_rfl)) (by kernel_rfl)) (by kernel_rfl)) (by kernel_rfl)) (by kernel_rfl)) (by kernel_rfl)) (by kernel_rfl)) (by kernel_rfl))
      have hs2 : lb 73 = false := (Bool.eq_false_or_eq_true (lb 73)).elim (fun h => absurd (hclo 71 67 (by decide) (hclo 73 71 (by decide) h (by kernel_rfl)) (by kernel_rfl)) (by rw [hlb]; decide)) id
      rw [if_neg (by rw [hs2]; decide)] at hW
      rw [if_pos hs1] at hW
      have hB := hW.1
      clear hcl hneed hclo
      intro Q2 K2 hK2
      simp only [XInv.puts, XPrint.pw]
      go_simp
      exact hK2.out (.bool true) w' ⟨bq, rfl, (by intros; first | rfl | trivial), (by rw [if_neg (by simp [XInv.up, hs2])]; rw [if_pos (by simp [XInv.up, hs1])]; exact hW)⟩
    · refine XInv.yes_tab [(144, 67)] (by kernel_rfl) ?_
      have hs0 := (hclo 11 10 (by decide) (hclo 13 11 (by decide) (hclo 17 13 (by decide) (hclo 21 17 (by decide) (hclo 25 21 (by decide) (hclo 29 25 (by decide) (hclo 31 29 (by decide) (hclo 35 31 (by decide) (hclo 39 35 (by decide) (hclo 44 39 (by decide) (hclo 51 44 (by decide) (hclo 55 51 (by decide) (hclo 60 55 (by decide) (hclo 67 60 (by decide) (hneed 67 (by kernel_rfl)) (by kernel_rfl)) (by kernel_rfl)) (by kernel_rfl)) (by kernel_rfl)) (by kernel_rfl)) (by kernel_rfl)) (by kernel_rfl)) (by kernel_rfl)) (by kernel_rfl)) (by kernel_rfl)) (by kernel_rfl)) (by kernel_rfl)) (by kernel_rfl)) (by kernel_rfl))
      have hs1 := (hclo 29 28 (by decide) (hclo 31 29 (by decide) (hclo 35 31 (by decide) (hclo 39 35 (by decide) (hclo 44 39 (by decide) (hclo 51 44 (by decide) (hclo 55 51 (by decide) (hclo 60 55 (by decide) (hclo 67 60 (by decide) (hneed 67 (by kernel_rfl)) (by kernel_rfl)) (by kernel_rfl)) (by kernel_rfl)) (by kernel_rfl)) (by kernel_rfl)) (by kernel_rfl)) (by kernel_rfl)) (by kernel_rfl)) (by kernel_rfl))
      have hs2 : lb 73 = false := (Bool.eq_false_or_eq_true (lb 73)).elim (fun h => absurd (hclo 69 68 (by decide) (hclo 70 69 (by decide) (hclo 71 70 (by decide) (hclo 73 71 (by decide) h (by kernel_rfl)) (by kernel_rfl)) (by kernel_rfl)) (by kernel_rfl)) (by rw [hlb]; decide)) id
      rw [if_neg (by rw [hs2]; decide)] at hW
      rw [if_pos hs1] at hW
      have hB := hW.1
      clear hcl hneed hclo
      intro Q2 K2 hK2
      simp only [XInv.puts, XPrint.pw]
      go_simp
      exact hK2.out (.int .i64 0) w' ⟨bq, rfl, (by intros; first | rfl | trivial), (by rw [if_neg (by simp [XInv.up, hs2])]; rw [if_pos (by simp [XInv.up, hs1])]; exact hW)⟩
    · refine XInv.yes_tab [(145, 68), (144, 67)] (by kernel_rfl) ?_
      have hs0 := (hclo 11 10 (by decide) (hclo 13 11 (by decide) (hclo 17 13 (by decide) (hclo 21 17 (by decide) (hclo 25 21 (by decide) (hclo 29 25 (by decide) (hclo 31 29 (by decide) (hclo 35 31 (by decide) (hclo 39 35 (by decide) (hclo 44 39 (by decide) (hclo 51 44 (by decide) (hclo 55 51 (by decide) (hclo 60 55 (by decide) (hclo 67 60 (by decide) (hneed 67 (by kernel_rfl)) (by kernel_rfl)) (by kernel_rfl)) (by kernel_rfl)) (by kernel_rfl)) (by kernel_rfl)) (by kernel_rfl)) (by kernel_rfl)) (by kernel_rfl)) (by kernel_rfl)) (by kernel_rfl)) (by kernel_rfl)) (by kernel_rfl)) (by kernel_rfl)) (by kernel_rfl))
      have hs1 := (hclo 29 28 (by decide) (hclo 31 29 (by decide) (hclo 35 31 (by decide) (hclo 39 35 (by decide) (hclo 44 39 (by decide) (hclo 51 44 (by decide) (hclo 55 51 (by decide) (hclo 60 55 (by decide) (hclo 67 60 (by decide) (hneed 67 (by kernel_rfl)) (by kernel_rfl)) (by kernel_rfl)) (by kernel_rfl)) (by kernel_rfl)) (by kernel_rfl)) (by kernel_rfl)) (by kernel_rfl)) (by kernel_rfl)) (by kernel_rfl))
      have hs2 : lb 73 = false := (Bool.eq_false_or_eq_true (lb 73)).elim (fun h => absurd (hclo 70 69 (by decide) (hclo 71 70 (by decide) (hclo 73 71 (by decide) h (by kernel_rfl)) (by kernel_rfl)) (by kernel_rfl)) (by rw [hlb]; decide)) id
      rw [if_neg (by rw [hs2]; decide)] at hW
      rw [if_pos hs1] at hW
      have hB := hW.1
      clear hcl hneed hclo
      intro Q2 K2 hK2
      simp only [XInv.puts, XPrint.pw]
      go_simp
      exact hK2.out (.bool true) w' ⟨bq, rfl, (by intros; first | rfl | trivial), (by rw [if_neg (by simp [XInv.up, hs2])]; rw [if_pos (by simp [XInv.up, hs1])]; exact hW)⟩
    · refine XInv.yes_tab [(146, 69), (144, 67)] (by kernel_rfl) ?_
      have hs0 := (hclo 11 10 (by decide) (hclo 13 11 (by decide) (hclo 17 13 (by decide) (hclo 21 17 (by decide) (hclo 25 21 (by decide) (hclo 29 25 (by decide) (hclo 31 29 (by decide) (hclo 35 31 (by decide) (hclo 39 35 (by decide) (hclo 44 39 (by decide) (hclo 51 44 (by decide) (hclo 55 51 (by decide) (hclo 60 55 (by decide) (hclo 67 60 (by decide) (hneed 67 (by kernel_rfl)) (by kernel_rfl)) (by kernel_rfl)) (by kernel_rfl)) (by kernel_rfl)) (by kernel_rfl)) (by kernel_rfl)) (by kernel_rfl)) (by kernel_rfl)) (by kernel_rfl)) (by kernel_rfl)) (by kernel_rfl)) (by kernel_rfl)) (by kernel_rfl)) (by kernel_rfl))
      have hs1 := (hclo 29 28 (by decide) (hclo 31 29 (by decide) (hclo 35 31 (by decide) (hclo 39 35 (by decide) (hclo 44 39 (by decide) (hclo 51 44 (by decide) (hclo 55 51 (by decide) (hclo 60 55 (by decide) (hclo 67 60 (by decide) (hneed 67 (by kernel_rfl)) (by kernel_rfl)) (by kernel_rfl)) (by kernel_rfl)) (by kernel_rfl)) (by kernel_rfl)) (by kernel_rfl)) (by kernel_rfl)) (by kernel_rfl)) (by kernel_rfl))
      have hs2 : lb 73 = false := (Bool.eq_false_or_eq_true (lb 73)).elim (fun h => absurd (hclo 71 70 (by decide) (hclo 73 71 (by decide) h (by kernel_rfl)) (by kernel_rfl)) (by rw [hlb]; decide)) id
      rw [if_neg (by rw [hs2]; decide)] at hW
      rw [if_pos hs1] at hW
      have hB := hW.1
      clear hcl hneed hclo
      intro Q2 K2 hK2
      simp only [XInv.puts, XPrint.pw]
      go_simp
      exact hK2.out (.bool true) w' ⟨bq, rfl, (by intros; first | rfl | trivial), (by rw [if_neg (by simp [XInv.up, hs2])]; rw [if_pos (by simp [XInv.up, hs1])]; exact hW)⟩
    · refine XInv.yes_tab [(147, 70), (144, 67)] (by kernel_rfl) ?_
      have hs0 := (hclo 11 10 (by decide) (hclo 13 11 (by decide) (hclo 17 13 (by decide) (hclo 21 17 (by decide) (hclo 25 21 (by decide) (hclo 29 25 (by decide) (hclo 31 29 (by decide) (hclo 35 31 (by decide) (hclo 39 35 (by decide) (hclo 44 39 (by decide) (hclo 51 44 (by decide) (hclo 55 51 (by decide) (hclo 60 55 (by decide) (hclo 67 60 (by decide) (hneed 67 (by kernel_rfl)) (by kernel_rfl)) (by kernel_rfl)) (by kernel_rfl)) (by kernel_rfl)) (by kernel_rfl)) (by kernel_rfl)) (by kernel_rfl)) (by kernel_rfl)) (by kernel_rfl)) (by kernel_rfl)) (by kernel_rfl)) (by kernel_rfl)) (by kernel_rfl)) (by kernel_rfl))
      have hs1 := (hclo 29 28 (by decide) (hclo 31 29 (by decide) (hclo 35 31 (by decide) (hclo 39 35 (by decide) (hclo 44 39 (by decide) (hclo 51 44 (by decide) (hclo 55 51 (by decide) (hclo 60 55 (by decide) (hclo 67 60 (by decide) (hneed 67 (by kernel_rfl)) (by kernel_rfl)) (by kernel_rfl)) (by kernel_rfl)) (by kernel_rfl)) (by kernel_rfl)) (by kernel_rfl)) (by kernel_rfl)) (by kernel_rfl)) (by kernel_rfl))
      have hs2 := hcl 73 (by decide) (by kernel_rfl)
      rw [if_neg (by rw [hs2]; decide)] at hW
      rw [if_pos hs1] at hW
      have hB := hW.1
      clear hcl hneed hclo
      intro Q2 K2 hK2
      simp only [XInv.puts, XPrint.pw]
      go_simp
      exact hK2.out (.bool true) w' ⟨bq, rfl, (by intros; first | rfl | trivial), (by rw [if_neg (by simp [XInv.up, hs2])]; rw [if_pos (by simp [XInv.up, hs1])]; exact hW)⟩
    · refine XInv.yes_tab [(148, 71)] (by kernel_rfl) ?_
      have hs0 := (hclo 11 10 (by decide) (hclo 13 11 (by decide) (hclo 17 13 (by decide) (hclo 21 17 (by decide) (hclo 25 21 (by decide) (hclo 29 25 (by decide) (hclo 31 29 (by decide) (hclo 35 31 (by decide) (hclo 39 35 (by decide) (hclo 44 39 (by decide) (hclo 51 44 (by decide) (hclo 55 51 (by decide) (hclo 60 55 (by decide) (hclo 67 60 (by decide) (hclo 71 67 (by decide) (hneed 71 (by kernel_rfl)) (by kernel_rfl)) (by kernel_rfl)) (by kernel_rfl)) (by kernel_rfl)) (by kernel_rfl)) (by kernel_rfl)) (by kernel_rfl)) (by kernel_rfl)) (by kernel_rfl)) (by kernel_rfl)) (by kernel_rfl)) (by kernel_rfl)) (by kernel_rfl)) (by kernel_rfl)) (by kernel_rfl))
      have hs1 := (hclo 29 28 (by decide) (hclo 31 29 (by decide) (hclo 35 31 (by decide) (hclo 39 35 (by decide) (hclo 44 39 (by decide) (hclo 51 44 (by decide) (hclo 55 51 (by decide) (hclo 60 55 (by decide) (hclo 67 60 (by decide) (hclo 71 67 (by decide) (hneed 71 (by kernel_rfl)) (by kernel_rfl)) (by kernel_rfl)) (by kernel_rfl)) (by kernel_rfl)) (by kernel_rfl)) (by kernel_rfl)) (by kernel_rfl)) (by kernel_rfl)) (by kernel_rfl)) (by kernel_rfl))
      have hs2 := hcl 73 (by decide) (by kernel_rfl)
      rw [if_neg (by rw [hs2]; decide)] at hW
      rw [if_pos hs1] at hW
      have hB := hW.1
      clear hcl hneed hclo
      intro Q2 K2 hK2
      simp only [XInv.puts, XPrint.pw]
      go_simp
      exact hK2.out (.pointer (some ⟨p, 0, none⟩)) w' ⟨bq, rfl, (by intros; first | rfl | trivial), (by rw [if_neg (by simp [XInv.up, hs2])]; rw [if_pos (by simp [XInv.up, hs1])]; exact hW)⟩
    · refine XInv.yes_tab [(149, 72), (148, 71)] (by kernel_rfl) ?_
      have hs0 := (hclo 11 10 (by decide) (hclo 13 11 (by decide) (hclo 17 13 (by decide) (hclo 21 17 (by decide) (hclo 25 21 (by decide) (hclo 29 25 (by decide) (hclo 31 29 (by decide) (hclo 35 31 (by decide) (hclo 39 35 (by decide) (hclo 44 39 (by decide) (hclo 51 44 (by decide) (hclo 55 51 (by decide) (hclo 60 55 (by decide) (hclo 67 60 (by decide) (hclo 71 67 (by decide) (hneed 71 (by kernel_rfl)) (by kernel_rfl)) (by kernel_rfl)) (by kernel_rfl)) (by kernel_rfl)) (by kernel_rfl)) (by kernel_rfl)) (by kernel_rfl)) (by kernel_rfl)) (by kernel_rfl)) (by kernel_rfl)) (by kernel_rfl)) (by kernel_rfl)) (by kernel_rfl)) (by kernel_rfl)) (by kernel_rfl))
      have hs1 := (hclo 29 28 (by decide) (hclo 31 29 (by decide) (hclo 35 31 (by decide) (hclo 39 35 (by decide) (hclo 44 39 (by decide) (hclo 51 44 (by decide) (hclo 55 51 (by decide) (hclo 60 55 (by decide) (hclo 67 60 (by decide) (hclo 71 67 (by decide) (hneed 71 (by kernel_rfl)) (by kernel_rfl)) (by kernel_rfl)) (by kernel_rfl)) (by kernel_rfl)) (by kernel_rfl)) (by kernel_rfl)) (by kernel_rfl)) (by kernel_rfl)) (by kernel_rfl)) (by kernel_rfl))
      have hs2 := hlb
      rw [if_neg (by rw [hs2]; decide)] at hW
      rw [if_pos hs1] at hW
      have hB := hW.1
      clear hcl hneed hclo
      intro Q2 K2 hK2
      simp only [XInv.puts, XPrint.pw]
      go_simp
      go_at_call 56
      (with_reducible refine ((X.out.same hB).boxes).mono ?_)
      rintro e wz ⟨vz, rfl, hRz, hbz⟩
      obtain ⟨Az, cz, rfl⟩ := Kd.R_slice hRz
      have hrz := Kd.R_reads' hRz
      exact hK2.out (.slice Az 1 cz) wz ⟨(bq.1, bq.2.1, Az, cz), rfl, (cs87 _ (fun _ => rfl) (fun _ => rfl) (fun _ => rfl) (fun _ => rfl) (fun _ => rfl) (fun _ => rfl) (fun _ => rfl) (fun _ => rfl) (fun _ => rfl) (fun _ => rfl) (fun _ => rfl) (fun _ => rfl) (fun _ => rfl) (fun _ => rfl) (fun _ => rfl) (fun _ => rfl) (fun _ => rfl) (fun _ => rfl) (fun _ => rfl) (fun _ => rfl) (fun _ => rfl) (fun _ => rfl) (fun _ => rfl) (fun _ => rfl) (fun _ => rfl) (fun _ => rfl) (fun _ => rfl) (fun _ => rfl) (fun _ => rfl) (fun _ => rfl) (fun _ => rfl) (fun _ => rfl) (fun _ => rfl) (fun _ => rfl) (fun _ => rfl) (fun _ => rfl) (fun _ => rfl) (fun _ => rfl) (fun _ => rfl) (fun _ => rfl) (fun _ => rfl) (fun _ => rfl) (fun _ => rfl) (fun _ => rfl) (fun _ => rfl) (fun _ => rfl) (fun _ => rfl) (fun _ => rfl) (fun _ => rfl) (fun _ => rfl) (fun _ => rfl) (fun _ => rfl) (fun _ => rfl) (fun _ => rfl) (fun _ => rfl) (fun _ => rfl) (fun _ => rfl) (fun _ => rfl) (fun _ => rfl) (fun _ => rfl) (fun _ => rfl) (fun _ => rfl) (fun _ => rfl) (fun _ => rfl) (fun _ => rfl) (fun _ => rfl) (fun _ => rfl) (fun _ => rfl) (fun _ => rfl) (fun _ => rfl) (fun _ => rfl) (fun _ => rfl) (fun _ => rfl) (fun hlj => absurd (hlb.symm.trans hlj) (by decide)) (fun _ => rfl) (fun _ => rfl) (fun _ => rfl) (fun _ => rfl) (fun _ => rfl) (fun _ => rfl) (fun _ => rfl) (fun _ => rfl) (fun _ => rfl) (fun _ => rfl) (fun _ => rfl) (fun _ => rfl) (fun _ => rfl)), (by rw [if_pos (by simp [XInv.up, hs2])]; exact ⟨below_step hB hbz, hrz.2.2, hrz.2.1⟩)⟩
    · refine XInv.yes_tab [(148, 71)] (by kernel_rfl) ?_
      have hs0 := (hclo 11 10 (by decide) (hclo 13 11 (by decide) (hclo 17 13 (by decide) (hclo 21 17 (by decide) (hclo 25 21 (by decide) (hclo 29 25 (by decide) (hclo 31 29 (by decide) (hclo 35 31 (by decide) (hclo 39 35 (by decide) (hclo 44 39 (by decide) (hclo 51 44 (by decide) (hclo 55 51 (by decide) (hclo 60 55 (by decide) (hclo 67 60 (by decide) (hclo 71 67 (by decide) (hneed 71 (by kernel_rfl)) (by kernel_rfl)) (by kernel_rfl)) (by kernel_rfl)) (by kernel_rfl)) (by kernel_rfl)) (by kernel_rfl)) (by kernel_rfl)) (by kernel_rfl)) (by kernel_rfl)) (by kernel_rfl)) (by kernel_rfl)) (by kernel_rfl)) (by kernel_rfl)) (by kernel_rfl)) (by kernel_rfl))
      have hs1 := (hclo 29 28 (by decide) (hclo 31 29 (by decide) (hclo 35 31 (by decide) (hclo 39 35 (by decide) (hclo 44 39 (by decide) (hclo 51 44 (by decide) (hclo 55 51 (by decide) (hclo 60 55 (by decide) (hclo 67 60 (by decide) (hclo 71 67 (by decide) (hneed 71 (by kernel_rfl)) (by kernel_rfl)) (by kernel_rfl)) (by kernel_rfl)) (by kernel_rfl)) (by kernel_rfl)) (by kernel_rfl)) (by kernel_rfl)) (by kernel_rfl)) (by kernel_rfl)) (by kernel_rfl))
      cases hs2 : lb 73
      case false =>
        rw [if_neg (by rw [hs2]; decide)] at hW
        rw [if_pos hs1] at hW
        have hB := hW.1
        clear hcl hneed hclo
        intro Q2 K2 hK2
        simp only [XInv.puts, XPrint.pw]
        go_simp
        exact hK2.out (.slice A1 2 c1) w' ⟨bq, rfl, (by intros; first | rfl | trivial), (by rw [if_neg (by simp [XInv.up, hs2])]; rw [if_pos (by simp [XInv.up, hs1])]; exact hW)⟩
      case true =>
        rw [if_pos hs2] at hW
        have hB := hW.1
        clear hcl hneed hclo
        intro Q2 K2 hK2
        simp only [XInv.puts, XPrint.pw]
        go_simp
        exact hK2.out (.slice A1 2 c1) w' ⟨bq, rfl, (by intros; first | rfl | trivial), (by rw [if_pos (by simp [XInv.up, hs2])]; exact hW)⟩
    · refine XInv.yes_tab [(151, 74), (148, 71)] (by kernel_rfl) ?_
      have hs0 := (hclo 11 10 (by decide) (hclo 13 11 (by decide) (hclo 17 13 (by decide) (hclo 21 17 (by decide) (hclo 25 21 (by decide) (hclo 29 25 (by decide) (hclo 31 29 (by decide) (hclo 35 31 (by decide) (hclo 39 35 (by decide) (hclo 44 39 (by decide) (hclo 51 44 (by decide) (hclo 55 51 (by decide) (hclo 60 55 (by decide) (hclo 67 60 (by decide) (hclo 71 67 (by decide) (hneed 71 (by kernel_rfl)) (by kernel_rfl)) (by kernel_rfl)) (by kernel_rfl)) (by kernel_rfl)) (by kernel_rfl)) (by kernel_rfl)) (by kernel_rfl)) (by kernel_rfl)) (by kernel_rfl)) (by kernel_rfl)) (by kernel_rfl)) (by kernel_rfl)) (by kernel_rfl)) (by kernel_rfl)) (by kernel_rfl))
      have hs1 := (hclo 29 28 (by decide) (hclo 31 29 (by decide) (hclo 35 31 (by decide) (hclo 39 35 (by decide) (hclo 44 39 (by decide) (hclo 51 44 (by decide) (hclo 55 51 (by decide) (hclo 60 55 (by decide) (hclo 67 60 (by decide) (hclo 71 67 (by decide) (hneed 71 (by kernel_rfl)) (by kernel_rfl)) (by kernel_rfl)) (by kernel_rfl)) (by kernel_rfl)) (by kernel_rfl)) (by kernel_rfl)) (by kernel_rfl)) (by kernel_rfl)) (by kernel_rfl)) (by kernel_rfl))
      cases hs2 : lb 73
      case false =>
        rw [if_neg (by rw [hs2]; decide)] at hW
        rw [if_pos hs1] at hW
        have hB := hW.1
        clear hcl hneed hclo
        intro Q2 K2 hK2
        simp only [XInv.puts, XPrint.pw]
        go_simp
        exact hK2.out (.slice A1 1 c1) w' ⟨bq, rfl, (by intros; first | rfl | trivial), (by rw [if_neg (by simp [XInv.up, hs2])]; rw [if_pos (by simp [XInv.up, hs1])]; exact hW)⟩
      case true =>
        rw [if_pos hs2] at hW
        have hB := hW.1
        clear hcl hneed hclo
        intro Q2 K2 hK2
        simp only [XInv.puts, XPrint.pw]
        go_simp
        exact hK2.out (.slice A1 1 c1) w' ⟨bq, rfl, (by intros; first | rfl | trivial), (by rw [if_pos (by simp [XInv.up, hs2])]; exact hW)⟩
    · refine XInv.yes_tab [(152, 75), (150, 73), (148, 71)] (by kernel_rfl) ?_
      have hs0 := (hclo 11 10 (by decide) (hclo 13 11 (by decide) (hclo 17 13 (by decide) (hclo 21 17 (by decide) (hclo 25 21 (by decide) (hclo 29 25 (by decide) (hclo 31 29 (by decide) (hclo 35 31 (by decide) (hclo 39 35 (by decide) (hclo 44 39 (by decide) (hclo 51 44 (by decide) (hclo 55 51 (by decide) (hclo 60 55 (by decide) (hclo 67 60 (by decide) (hclo 71 67 (by decide) (hneed 71 (by kernel_rfl)) (by kernel_rfl)) (by kernel_rfl)) (by kernel_rfl)) (by kernel_rfl)) (by kernel_rfl)) (by kernel_rfl)) (by kernel_rfl)) (by kernel_rfl)) (by kernel_rfl)) (by kernel_rfl)) (by kernel_rfl)) (by kernel_rfl)) (by kernel_rfl)) (by kernel_rfl)) (by kernel_rfl))
      have hs1 := (hclo 29 28 (by decide) (hclo 31 29 (by decide) (hclo 35 31 (by decide) (hclo 39 35 (by decide) (hclo 44 39 (by decide) (hclo 51 44 (by decide) (hclo 55 51 (by decide) (hclo 60 55 (by decide) (hclo 67 60 (by decide) (hclo 71 67 (by decide) (hneed 71 (by kernel_rfl)) (by kernel_rfl)) (by kernel_rfl)) (by kernel_rfl)) (by kernel_rfl)) (by kernel_rfl)) (by kernel_rfl)) (by kernel_rfl)) (by kernel_rfl)) (by kernel_rfl)) (by kernel_rfl))
      have hs2 := hneed 73 (by kernel_rfl)
      rw [if_pos hs2] at hW
      have hB := hW.1
      clear hcl hneed hclo
      intro Q2 K2 hK2
      simp only [XInv.puts, XPrint.pw]
      go_simp
      go_at_call 102
      (with_reducible refine (same_ok [b1] 1 rfl 4 (by decide +kernel) _ _ _ _ _ hW.2.1 (CT.out w' hB) hW.2.2 LC.out).mono ?_)
      rintro e wz ⟨rfl, hb⟩
      exact hK2.out (.bool true) wz ⟨bq, rfl, (by intros; first | rfl | trivial), (by rw [if_pos (by simp [XInv.up, hs2])]; exact ⟨below_step hB hb, Kd.C_below hW.2.1 hb, hW.2.2⟩)⟩
    · refine XInv.yes_tab [(153, 76), (148, 71)] (by kernel_rfl) ?_
      have hs0 := (hclo 11 10 (by decide) (hclo 13 11 (by decide) (hclo 17 13 (by decide) (hclo 21 17 (by decide) (hclo 25 21 (by decide) (hclo 29 25 (by decide) (hclo 31 29 (by decide) (hclo 35 31 (by decide) (hclo 39 35 (by decide) (hclo 44 39 (by decide) (hclo 51 44 (by decide) (hclo 55 51 (by decide) (hclo 60 55 (by decide) (hclo 67 60 (by decide) (hclo 71 67 (by decide) (hneed 71 (by kernel_rfl)) (by kernel_rfl)) (by kernel_rfl)) (by kernel_rfl)) (by kernel_rfl)) (by kernel_rfl)) (by kernel_rfl)) (by kernel_rfl)) (by kernel_rfl)) (by kernel_rfl)) (by kernel_rfl)) (by kernel_rfl)) (by kernel_rfl)) (by kernel_rfl)) (by kernel_rfl)) (by kernel_rfl))
      have hs1 := (hclo 29 28 (by decide) (hclo 31 29 (by decide) (hclo 35 31 (by decide) (hclo 39 35 (by decide) (hclo 44 39 (by decide) (hclo 51 44 (by decide) (hclo 55 51 (by decide) (hclo 60 55 (by decide) (hclo 67 60 (by decide) (hclo 71 67 (by decide) (hneed 71 (by kernel_rfl)) (by kernel_rfl)) (by kernel_rfl)) (by kernel_rfl)) (by kernel_rfl)) (by kernel_rfl)) (by kernel_rfl)) (by kernel_rfl)) (by kernel_rfl)) (by kernel_rfl)) (by kernel_rfl))
      have hs2 := (hclo 76 73 (by decide) (hneed 76 (by kernel_rfl)) (by kernel_rfl))
      rw [if_pos hs2] at hW
      have hB := hW.1
      clear hcl hneed hclo
      intro Q2 K2 hK2
      simp only [XInv.puts, XPrint.pw]
      go_simp
      exact hK2.out (.bool true) w' ⟨bq, rfl, (by intros; first | rfl | trivial), (by rw [if_pos (by simp [XInv.up, hs2])]; exact hW)⟩
    · refine XInv.yes_tab [(154, 77), (153, 76)] (by kernel_rfl) ?_
      have hs0 := (hclo 11 10 (by decide) (hclo 13 11 (by decide) (hclo 17 13 (by decide) (hclo 21 17 (by decide) (hclo 25 21 (by decide) (hclo 29 25 (by decide) (hclo 31 29 (by decide) (hclo 35 31 (by decide) (hclo 39 35 (by decide) (hclo 44 39 (by decide) (hclo 51 44 (by decide) (hclo 55 51 (by decide) (hclo 60 55 (by decide) (hclo 67 60 (by decide) (hclo 71 67 (by decide) (hclo 76 71 (by decide) (hneed 76 (by kernel_rfl)) (by kernel_rfl)) (by kernel_rfl)) (by kernel_rfl)) (by kernel_rfl)) (by kernel_rfl)) (by kernel_rfl)) (by kernel_rfl)) (by kernel_rfl)) (by kernel_rfl)) (by kernel_rfl)) (by kernel_rfl)) (by kernel_rfl)) (by kernel_rfl)) (by kernel_rfl)) (by kernel_rfl)) (by kernel_rfl))
      have hs1 := (hclo 29 28 (by decide) (hclo 31 29 (by decide) (hclo 35 31 (by decide) (hclo 39 35 (by decide) (hclo 44 39 (by decide) (hclo 51 44 (by decide) (hclo 55 51 (by decide) (hclo 60 55 (by decide) (hclo 67 60 (by decide) (hclo 71 67 (by decide) (hclo 76 71 (by decide) (hneed 76 (by kernel_rfl)) (by kernel_rfl)) (by kernel_rfl)) (by kernel_rfl)) (by kernel_rfl)) (by kernel_rfl)) (by kernel_rfl)) (by kernel_rfl)) (by kernel_rfl)) (by kernel_rfl)) (by kernel_rfl)) (by kernel_rfl))
      have hs2 := (hclo 76 73 (by decide) (hneed 76 (by kernel_rfl)) (by kernel_rfl))
      rw [if_pos hs2] at hW
      have hB := hW.1
      clear hcl hneed hclo
      intro Q2 K2 hK2
      simp only [XInv.puts, XPrint.pw]
      go_simp
      exact hK2.out (.bool true) w' ⟨bq, rfl, (by intros; first | rfl | trivial), (by rw [if_pos (by simp [XInv.up, hs2])]; exact hW)⟩
    · refine XInv.yes_tab [(155, 78)] (by kernel_rfl) ?_
      have hs0 := (hclo 11 10 (by decide) (hclo 13 11 (by decide) (hclo 17 13 (by decide) (hclo 21 17 (by decide) (hclo 25 21 (by decide) (hclo 29 25 (by decide) (hclo 31 29 (by decide) (hclo 35 31 (by decide) (hclo 39 35 (by decide) (hclo 44 39 (by decide) (hclo 51 44 (by decide) (hclo 55 51 (by decide) (hclo 60 55 (by decide) (hclo 67 60 (by decide) (hclo 71 67 (by decide) (hclo 76 71 (by decide) (hclo 78 76 (by decide) (hneed 78 (by kernel_rfl)) (by kernel_rfl)) (by kernel_rfl)) (by kernel_rfl)) (by kernel_rfl)) (by kernel_rfl)) (by kernel_rfl)) (by kernel_rfl)) (by kernel_rfl)) (by kernel_rfl)) (by kernel_rfl)) (by kernel_rfl)) (by kernel_rfl)) (by kernel_rfl)) (by kernel_rfl)) (by kernel_rfl)) (by kernel_rfl)) (by kernel_rfl))
      have hs1 := (hclo 29 28 (by decide) (hclo 31 29 (by decide) (hclo 35 31 (by decide) (hclo 39 35 (by decide) (hclo 44 39 (by decide) (hclo 51 44 (by decide) (hclo 55 51 (by decide) (hclo 60 55 (by decide) (hclo 67 60 (by decide) (hclo 71 67 (by decide) (hclo 76 71 (by decide) (hclo 78 76 (by decide) (hneed 78 (by kernel_rfl)) (by kernel_rfl)) (by kernel_rfl)) (by kernel_rfl)) (by kernel_rfl)) (by kernel_rfl)) (by kernel_rfl)) (by kernel_rfl)) (by kernel_rfl)) (by kernel_rfl)) (by kernel_rfl)) (by kernel_rfl)) (by kernel_rfl))
      have hs2 := (hclo 76 73 (by decide) (hclo 78 76 (by decide) (hneed 78 (by kernel_rfl)) (by kernel_rfl)) (by kernel_rfl))
      rw [if_pos hs2] at hW
      have hB := hW.1
      clear hcl hneed hclo
      intro Q2 K2 hK2
      simp only [XInv.puts, XPrint.pw]
      go_simp
      exact hK2.out (.int .i64 7) w' ⟨bq, rfl, (by intros; first | rfl | trivial), (by rw [if_pos (by simp [XInv.up, hs2])]; exact hW)⟩
    · refine XInv.yes_tab [(156, 79), (155, 78)] (by kernel_rfl) ?_
      have hs0 := (hclo 11 10 (by decide) (hclo 13 11 (by decide) (hclo 17 13 (by decide) (hclo 21 17 (by decide) (hclo 25 21 (by decide) (hclo 29 25 (by decide) (hclo 31 29 (by decide) (hclo 35 31 (by decide) (hclo 39 35 (by decide) (hclo 44 39 (by decide) (hclo 51 44 (by decide) (hclo 55 51 (by decide) (hclo 60 55 (by decide) (hclo 67 60 (by decide) (hclo 71 67 (by decide) (hclo 76 71 (by decide) (hclo 78 76 (by decide) (hneed 78 (by kernel_rfl)) (by kernel_rfl)) (by kernel_rfl)) (by kernel_rfl)) (by kernel_rfl)) (by kernel_rfl)) (by kernel_rfl)) (by kernel_rfl)) (by kernel_rfl)) (by kernel_rfl)) (by kernel_rfl)) (by kernel_rfl)) (by kernel_rfl)) (by kernel_rfl)) (by kernel_rfl)) (by kernel_rfl)) (by kernel_rfl)) (by kernel_rfl))
      have hs1 := (hclo 29 28 (by decide) (hclo 31 29 (by decide) (hclo 35 31 (by decide) (hclo 39 35 (by decide) (hclo 44 39 (by decide) (hclo 51 44 (by decide) (hclo 55 51 (by decide) (hclo 60 55 (by decide) (hclo 67 60 (by decide) (hclo 71 67 (by decide) (hclo 76 71 (by decide) (hclo 78 76 (by decide) (hneed 78 (by kernel_rfl)) (by kernel_rfl)) (by kernel_rfl)) (by kernel_rfl)) (by kernel_rfl)) (by kernel_rfl)) (by kernel_rfl)) (by kernel_rfl)) (by kernel_rfl)) (by kernel_rfl)) (by kernel_rfl)) (by kernel_rfl)) (by kernel_rfl))
      have hs2 := (hclo 76 73 (by decide) (hclo 78 76 (by decide) (hneed 78 (by kernel_rfl)) (by kernel_rfl)) (by kernel_rfl))
      rw [if_pos hs2] at hW
      have hB := hW.1
      clear hcl hneed hclo
      intro Q2 K2 hK2
      simp only [XInv.puts, XPrint.pw]
      go_simp
      exact hK2.out (.bool true) w' ⟨bq, rfl, (by intros; first | rfl | trivial), (by rw [if_pos (by simp [XInv.up, hs2])]; exact hW)⟩
    · refine XInv.yes_tab [(157, 80), (155, 78)] (by kernel_rfl) ?_
      have hs0 := (hclo 11 10 (by decide) (hclo 13 11 (by decide) (hclo 17 13 (by decide) (hclo 21 17 (by decide) (hclo 25 21 (by decide) (hclo 29 25 (by decide) (hclo 31 29 (by decide) (hclo 35 31 (by decide) (hclo 39 35 (by decide) (hclo 44 39 (by decide) (hclo 51 44 (by decide) (hclo 55 51 (by decide) (hclo 60 55 (by decide) (hclo 67 60 (by decide) (hclo 71 67 (by decide) (hclo 76 71 (by decide) (hclo 78 76 (by decide) (hneed 78 (by kernel_rfl)) (by kernel_rfl)) (by kernel_rfl)) (by kernel_rfl)) (by kernel_rfl)) (by kernel_rfl)) (by kernel_rfl)) (by kernel_rfl)) (by kernel_rfl)) (by kernel_rfl)) (by kernel_rfl)) (by kernel_rfl)) (by kernel_rfl)) (by kernel_rfl)) (by kernel_rfl)) (by kernel_rfl)) (by kernel_rfl)) (by kernel_rfl))
      have hs1 := (hclo 29 28 (by decide) (hclo 31 29 (by decide) (hclo 35 31 (by decide) (hclo 39 35 (by decide) (hclo 44 39 (by decide) (hclo 51 44 (by decide) (hclo 55 51 (by decide) (hclo 60 55 (by decide) (hclo 67 60 (by decide) (hclo 71 67 (by decide) (hclo 76 71 (by decide) (hclo 78 76 (by decide) (hneed 78 (by kernel_rfl)) (by kernel_rfl)) (by kernel_rfl)) (by kernel_rfl)) (by kernel_rfl)) (by kernel_rfl)) (by kernel_rfl)) (by kernel_rfl)) (by kernel_rfl)) (by kernel_rfl)) (by kernel_rfl)) (by kernel_rfl)) (by kernel_rfl))
      have hs2 := (hclo 76 73 (by decide) (hclo 78 76 (by decide) (hneed 78 (by kernel_rfl)) (by kernel_rfl)) (by kernel_rfl))
      rw [if_pos hs2] at hW
      have hB := hW.1
      clear hcl hneed hclo
      intro Q2 K2 hK2
      simp only [XInv.puts, XPrint.pw]
      go_simp
      exact hK2.out (.bool true) w' ⟨bq, rfl, (by intros; first | rfl | trivial), (by rw [if_pos (by simp [XInv.up, hs2])]; exact hW)⟩
    · refine XInv.yes_tab [(158, 81), (155, 78)] (by kernel_rfl) ?_
      have hs0 := (hclo 11 10 (by decide) (hclo 13 11 (by decide) (hclo 17 13 (by decide) (hclo 21 17 (by decide) (hclo 25 21 (by decide) (hclo 29 25 (by decide) (hclo 31 29 (by decide) (hclo 35 31 (by decide) (hclo 39 35 (by decide) (hclo 44 39 (by decide) (hclo 51 44 (by decide) (hclo 55 51 (by decide) (hclo 60 55 (by decide) (hclo 67 60 (by decide) (hclo 71 67 (by decide) (hclo 76 71 (by decide) (hclo 78 76 (by decide) (hneed 78 (by kernel_rfl)) (by kernel_rfl)) (by kernel_rfl)) (by kernel_rfl)) (by kernel_rfl)) (by kernel_rfl)) (by kernel_rfl)) (by kernel_rfl)) (by kernel_rfl)) (by kernel_rfl)) (by kernel_rfl)) (by kernel_rfl)) (by kernel_rfl)) (by kernel_rfl)) (by kernel_rfl)) (by kernel_rfl)) (by kernel_rfl)) (by kernel_rfl))
      have hs1 := (hclo 29 28 (by decide) (hclo 31 29 (by decide) (hclo 35 31 (by decide) (hclo 39 35 (by decide) (hclo 44 39 (by decide) (hclo 51 44 (by decide) (hclo 55 51 (by decide) (hclo 60 55 (by decide) (hclo 67 60 (by decide) (hclo 71 67 (by decide) (hclo 76 71 (by decide) (hclo 78 76 (by decide) (hneed 78 (by kernel_rfl)) (by kernel_rfl)) (by kernel_rfl)) (by kernel_rfl)) (by kernel_rfl)) (by kernel_rfl)) (by kernel_rfl)) (by kernel_rfl)) (by kernel_rfl)) (by kernel_rfl)) (by kernel_rfl)) (by kernel_rfl)) (by kernel_rfl))
      have hs2 := (hclo 76 73 (by decide) (hclo 78 76 (by decide) (hneed 78 (by kernel_rfl)) (by kernel_rfl)) (by kernel_rfl))
      rw [if_pos hs2] at hW
      have hB := hW.1
      clear hcl hneed hclo
      intro Q2 K2 hK2
      simp only [XInv.puts, XPrint.pw]
      go_simp
      exact hK2.out (.bool true) w' ⟨bq, rfl, (by intros; first | rfl | trivial), (by rw [if_pos (by simp [XInv.up, hs2])]; exact hW)⟩
    · refine XInv.yes_tab [(159, 82)] (by kernel_rfl) ?_
      have hs0 := (hclo 11 10 (by decide) (hclo 13 11 (by decide) (hclo 17 13 (by decide) (hclo 21 17 (by decide) (hclo 25 21 (by decide) (hclo 29 25 (by decide) (hclo 31 29 (by decide) (hclo 35 31 (by decide) (hclo 39 35 (by decide) (hclo 44 39 (by decide) (hclo 51 44 (by decide) (hclo 55 51 (by decide) (hclo 60 55 (by decide) (hclo 67 60 (by decide) (hclo 71 67 (by decide) (hclo 76 71 (by decide) (hclo 78 76 (by decide) (hclo 82 78 (by decide) (hneed 82 (by kernel_rfl)) (by kernel_rfl)) (by kernel_rfl)) (by kernel_rfl)) (by kernel_rfl)) (by kernel_rfl)) (by kernel_rfl)) (by kernel_rfl)) (by kernel_rfl)) (by kernel_rfl)) (by kernel_rfl)) (by kernel_rfl)) (by kernel_rfl)) (by kernel_rfl)) (by kernel_rfl)) (by kernel_rfl)) (by kernel_rfl)) (by kernel_rfl)) (by kernel_rfl))
      have hs1 := (hclo 29 28 (by decide) (hclo 31 29 (by decide) (hclo 35 31 (by decide) (hclo 39 35 (by decide) (hclo 44 39 (by decide) (hclo 51 44 (by decide) (hclo 55 51 (by decide) (hclo 60 55 (by decide) (hclo 67 60 (by decide) (hclo 71 67 (by decide) (hclo 76 71 (by decide) (hclo 78 76 (by decide) (hclo 82 78 (by decide) (hneed 82 (by kernel_rfl)) (by kernel_rfl)) (by kernel_rfl)) (by kernel_rfl)) (by kernel_rfl)) (by kernel_rfl)) (by kernel_rfl)) (by kernel_rfl)) (by kernel_rfl)) (by kernel_rfl)) (by kernel_rfl)) (by kernel_rfl)) (by kernel_rfl)) (by kernel_rfl))
      have hs2 := (hclo 76 73 (by decide) (hclo 78 76 (by decide) (hclo 82 78 (by decide) (hneed 82 (by kernel_rfl)) (by kernel_rfl)) (by kernel_rfl)) (by kernel_rfl))
      rw [if_pos hs2] at hW
      have hB := hW.1
      clear hcl hneed hclo
      intro Q2 K2 hK2
      simp only [XInv.puts, XPrint.pw]
      go_simp
      exact hK2.out (.int .i64 2) w' ⟨bq, rfl, (by intros; first | rfl | trivial), (by rw [if_pos (by simp [XInv.up, hs2])]; exact hW)⟩
    · refine XInv.yes_tab [(160, 83), (159, 82)] (by kernel_rfl) ?_
      have hs0 := (hclo 11 10 (by decide) (hclo 13 11 (by decide) (hclo 17 13 (by decide) (hclo 21 17 (by decide) (hclo 25 21 (by decide) (hclo 29 25 (by decide) (hclo 31 29 (by decide) (hclo 35 31 (by decide) (hclo 39 35 (by decide) (hclo 44 39 (by decide) (hclo 51 44 (by decide) (hclo 55 51 (by decide) (hclo 60 55 (by decide) (hclo 67 60 (by decide) (hclo 71 67 (by decide) (hclo 76 71 (by decide) (hclo 78 76 (by decide) (hclo 82 78 (by decide) (hneed 82 (by kernel_rfl)) (by kernel_rfl)) (by kernel_rfl)) (by kernel_rfl)) (by kernel_rfl)) (by kernel_rfl)) (by kernel_rfl)) (by kernel_rfl)) (by kernel_rfl)) (by kernel_rfl)) (by kernel_rfl)) (by kernel_rfl)) (by kernel_rfl)) (by kernel_rfl)) (by kernel_rfl)) (by kernel_rfl)) (by kernel_rfl)) (by kernel_rfl)) (by kernel_rfl))
      have hs1 := (hclo 29 28 (by decide) (hclo 31 29 (by decide) (hclo 35 31 (by decide) (hclo 39 35 (by decide) (hclo 44 39 (by decide) (hclo 51 44 (by decide) (hclo 55 51 (by decide) (hclo 60 55 (by decide) (hclo 67 60 (by decide) (hclo 71 67 (by decide) (hclo 76 71 (by decide) (hclo 78 76 (by decide) (hclo 82 78 (by decide) (hneed 82 (by kernel_rfl)) (by kernel_rfl)) (by kernel_rfl)) (by kernel_rfl)) (by kernel_rfl)) (by kernel_rfl)) (by kernel_rfl)) (by kernel_rfl)) (by kernel_rfl)) (by kernel_rfl)) (by kernel_rfl)) (by kernel_rfl)) (by kernel_rfl)) (by kernel_rfl))
      have hs2 := (hclo 76 73 (by decide) (hclo 78 76 (by decide) (hclo 82 78 (by decide) (hneed 82 (by kernel_rfl)) (by kernel_rfl)) (by kernel_rfl)) (by kernel_rfl))
      rw [if_pos hs2] at hW
      have hB := hW.1
      clear hcl hneed hclo
      intro Q2 K2 hK2
      simp only [XInv.puts, XPrint.pw]
      go_simp
      exact hK2.out (.bool true) w' ⟨bq, rfl, (by intros; first | rfl | trivial), (by rw [if_pos (by simp [XInv.up, hs2])]; exact hW)⟩
    · refine XInv.yes_tab [(161, 84), (159, 82)] (by kernel_rfl) ?_
      have hs0 := (hclo 11 10 (by decide) (hclo 13 11 (by decide) (hclo 17 13 (by decide) (hclo 21 17 (by decide) (hclo 25 21 (by decide) (hclo 29 25 (by decide) (hclo 31 29 (by decide) (hclo 35 31 (by decide) (hclo 39 35 (by decide) (hclo 44 39 (by decide) (hclo 51 44 (by decide) (hclo 55 51 (by decide) (hclo 60 55 (by decide) (hclo 67 60 (by decide) (hclo 71 67 (by decide) (hclo 76 71 (by decide) (hclo 78 76 (by decide) (hclo 82 78 (by decide) (hneed 82 (by kernel_rfl)) (by kernel_rfl)) (by kernel_rfl)) (by kernel_rfl)) (by kernel_rfl)) (by kernel_rfl)) (by kernel_rfl)) (by kernel_rfl)) (by kernel_rfl)) (by kernel_rfl)) (by kernel_rfl)) (by kernel_rfl)) (by kernel_rfl)) (by kernel_rfl)) (by kernel_rfl)) (by kernel_rfl)) (by kernel_rfl)) (by kernel_rfl)) (by kernel_rfl))
      have hs1 := (hclo 29 28 (by decide) (hclo 31 29 (by decide) (hclo 35 31 (by decide) (hclo 39 35 (by decide) (hclo 44 39 (by decide) (hclo 51 44 (by decide) (hclo 55 51 (by decide) (hclo 60 55 (by decide) (hclo 67 60 (by decide) (hclo 71 67 (by decide) (hclo 76 71 (by decide) (hclo 78 76 (by decide) (hclo 82 78 (by decide) (hneed 82 (by kernel_rfl)) (by kernel_rfl)) (by kernel_rfl)) (by kernel_rfl)) (by kernel_rfl)) (by kernel_rfl)) (by kernel_rfl)) (by kernel_rfl)) (by kernel_rfl)) (by kernel_rfl)) (by kernel_rfl)) (by kernel_rfl)) (by kernel_rfl)) (by kernel_rfl))
      have hs2 := (hclo 76 73 (by decide) (hclo 78 76 (by decide) (hclo 82 78 (by decide) (hneed 82 (by kernel_rfl)) (by kernel_rfl)) (by kernel_rfl)) (by kernel_rfl))
      rw [if_pos hs2] at hW
      have hB := hW.1
      clear hcl hneed hclo
      intro Q2 K2 hK2
      simp only [XInv.puts, XPrint.pw]
      go_simp
      exact hK2.out (.bool true) w' ⟨bq, rfl, (by intros; first | rfl | trivial), (by rw [if_pos (by simp [XInv.up, hs2])]; exact hW)⟩
    · refine XInv.yes_tab [(162, 85), (161, 84), (160, 83), (159, 82), (158, 81), (157, 80), (156, 79), (155, 78), (154, 77), (153, 76), (152, 75), (151, 74), (150, 73), (149, 72), (148, 71), (147, 70), (146, 69), (145, 68), (144, 67), (143, 66), (142, 65), (141, 64), (140, 63), (139, 62), (138, 61), (137, 60), (136, 59), (135, 58), (134, 57), (133, 56), (132, 55), (131, 54), (130, 53), (129, 52), (128, 51), (127, 50), (126, 49), (125, 48), (124, 47), (123, 46), (122, 45), (121, 44), (120, 43), (119, 42), (118, 41), (117, 40), (116, 39), (115, 38), (114, 37), (113, 36), (112, 35), (111, 34), (110, 33), (109, 32), (108, 31), (107, 30), (106, 29), (105, 28), (104, 27), (103, 26), (102, 25), (101, 24), (100, 23), (99, 22), (98, 21), (97, 20), (96, 19), (95, 18), (94, 17), (93, 16), (92, 15), (91, 14), (90, 13), (89, 12), (88, 11), (87, 10), (86, 9), (85, 8), (84, 7), (83, 6), (82, 5), (81, 4), (80, 3), (79, 2), (78, 1), (77, 0)] (by kernel_rfl) ?_
      have hs0 := hneed 10 (by kernel_rfl)
      have hs1 := hneed 28 (by kernel_rfl)
      have hs2 := hneed 73 (by kernel_rfl)
      rw [if_pos hs2] at hW
      have hB := hW.1
      clear hcl hneed hclo
      intro Q2 K2 hK2
      simp only [XInv.puts, XPrint.pw] at hK2 ⊢
      go_simp
      exact hK2.out (.bool true) w' ⟨bq, rfl, (by intros; first | rfl | trivial), (by rw [if_pos (by simp [XInv.up, hs2])]; exact hW)⟩
  · intro bq w' hW
    refine XInv.end_nil [(0, 86), (162, 85), (161, 84), (160, 83), (159, 82), (158, 81), (157, 80), (156, 79), (155, 78), (154, 77), (153, 76), (152, 75), (151, 74), (150, 73), (149, 72), (148, 71), (147, 70), (146, 69), (145, 68), (144, 67), (143, 66), (142, 65), (141, 64), (140, 63), (139, 62), (138, 61), (137, 60), (136, 59), (135, 58), (134, 57), (133, 56), (132, 55), (131, 54), (130, 53), (129, 52), (128, 51), (127, 50), (126, 49), (125, 48), (124, 47), (123, 46), (122, 45), (121, 44), (120, 43), (119, 42), (118, 41), (117, 40), (116, 39), (115, 38), (114, 37), (113, 36), (112, 35), (111, 34), (110, 33), (109, 32), (108, 31), (107, 30), (106, 29), (105, 28), (104, 27), (103, 26), (102, 25), (101, 24), (100, 23), (99, 22), (98, 21), (97, 20), (96, 19), (95, 18), (94, 17), (93, 16), (92, 15), (91, 14), (90, 13), (89, 12), (88, 11), (87, 10), (86, 9), (85, 8), (84, 7), (83, 6), (82, 5), (81, 4), (80, 3), (79, 2), (78, 1), (77, 0)] (by kernel_rfl) (by kernel_rfl) ?_
    simp only [XInv.puts, XPrint.pw]
    rw [if_pos (by kernel_rfl)] at hW
    have Z := Aside0.mk hW.1
    clear hW
    go_wp2
    go_ret
    exact ⟨rfl, below_step X.out.below Z.out⟩
end Go.Proofs.Ythibppfdonepoaa.LedT
