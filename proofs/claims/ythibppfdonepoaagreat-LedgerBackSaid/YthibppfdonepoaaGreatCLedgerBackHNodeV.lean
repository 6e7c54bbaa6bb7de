/- liverylaw23.head. The document's table, in plain words. The document's table: Lose, Total, Cap. -/
import Derived.Test.YthibppfdonepoaaGreatCLedgerBackHLedP
import Derived.Test.YthibppfdonepoaaGreatCLedgerBackHLedGG
import Derived.Test.YthibppfdonepoaaGreatCLedgerBackHLedJ
import Derived.Test.YthibppfdonepoaaGreatCLedgerBackPNodePlaysx0
import Derived.Test.YthibppfdonepoaaGreatCLedgerBackPNodePlaysx1
import Derived.Test.YthibppfdonepoaaGreatCLedgerBackPNodePlaysx10
import Derived.Test.YthibppfdonepoaaGreatCLedgerBackPNodePlaysx11
import Derived.Test.YthibppfdonepoaaGreatCLedgerBackPNodePlaysx12
import Derived.Test.YthibppfdonepoaaGreatCLedgerBackPNodePlaysx13
import Derived.Test.YthibppfdonepoaaGreatCLedgerBackPNodePlaysx14
import Derived.Test.YthibppfdonepoaaGreatCLedgerBackPNodePlaysx16
import Derived.Test.YthibppfdonepoaaGreatCLedgerBackPNodePlaysx17
import Derived.Test.YthibppfdonepoaaGreatCLedgerBackPNodePlaysx2
import Derived.Test.YthibppfdonepoaaGreatCLedgerBackPNodePlaysx3
import Derived.Test.YthibppfdonepoaaGreatCLedgerBackPNodePlaysx4
import Derived.Test.YthibppfdonepoaaGreatCLedgerBackPNodePlaysx5
import Derived.Test.YthibppfdonepoaaGreatCLedgerBackPNodePlaysx7
import Derived.Test.YthibppfdonepoaaGreatCLedgerBackPNodePlaysx8
import Derived.Test.YthibppfdonepoaaGreatCLedgerBackPNodePlaysx9
set_option linter.unusedVariables false
set_option linter.unusedSimpArgs false
namespace Go.Proofs.YthibppfdonepoaaGreat.LedT
open Go.RowKit Go.MapKept Go.Maps Go.ChangeMaps Go.Proofs.YthibppfdonepoaaGreat.XBut Go.Proofs.YthibppfdonepoaaGreat.XMap Go.Proofs.YthibppfdonepoaaGreat.NodeT Go.Proofs.YthibppfdonepoaaGreatW.PrintWords Go.Proofs.YthibppfdonepoaaGreatW.PrintLast
def m5 : Nd := ⟨5, ⟨2, 9⟩⟩
def m3 : Nd := ⟨3, ⟨1, 1⟩⟩
def b1 : Bx := ⟨1, 3, 7, false⟩
def b2 : Bx := ⟨2, 5, 7, false⟩
def b3 : Bx := ⟨3, 5, 8, true⟩
theorem cs87 (P : Nat → Prop) (h0 : P 0) (h1 : P 1) (h2 : P 2) (h3 : P 3) (h4 : P 4) (h5 : P 5) (h6 : P 6) (h7 : P 7) (h8 : P 8) (h9 : P 9) (h10 : P 10) (h11 : P 11) (h12 : P 12) (h13 : P 13) (h14 : P 14) (h15 : P 15) (h16 : P 16) (h17 : P 17) (h18 : P 18) (h19 : P 19) (h20 : P 20) (h21 : P 21) (h22 : P 22) (h23 : P 23) (h24 : P 24) (h25 : P 25) (h26 : P 26) (h27 : P 27) (h28 : P 28) (h29 : P 29) (h30 : P 30) (h31 : P 31) (h32 : P 32) (h33 : P 33) (h34 : P 34) (h35 : P 35) (h36 : P 36) (h37 : P 37) (h38 : P 38) (h39 : P 39) (h40 : P 40) (h41 : P 41) (h42 : P 42) (h43 : P 43) (h44 : P 44) (h45 : P 45) (h46 : P 46) (h47 : P 47) (h48 : P 48) (h49 : P 49) (h50 : P 50) (h51 : P 51) (h52 : P 52) (h53 : P 53) (h54 : P 54) (h55 : P 55) (h56 : P 56) (h57 : P 57) (h58 : P 58) (h59 : P 59) (h60 : P 60) (h61 : P 61) (h62 : P 62) (h63 : P 63) (h64 : P 64) (h65 : P 65) (h66 : P 66) (h67 : P 67) (h68 : P 68) (h69 : P 69) (h70 : P 70) (h71 : P 71) (h72 : P 72) (h73 : P 73) (h74 : P 74) (h75 : P 75) (h76 : P 76) (h77 : P 77) (h78 : P 78) (h79 : P 79) (h80 : P 80) (h81 : P 81) (h82 : P 82) (h83 : P 83) (h84 : P 84) (h85 : P 85) (h86 : P 86) : ∀ i, i < 87 → P i := by
 intro i hi
 rcases (by omega : i = 0 ∨ i = 1 ∨ i = 2 ∨ i = 3 ∨ i = 4 ∨ i = 5 ∨ i = 6 ∨ i = 7 ∨ i = 8 ∨ i = 9 ∨ i = 10 ∨ i = 11 ∨ i = 12 ∨ i = 13 ∨ i = 14 ∨ i = 15 ∨ i = 16 ∨ i = 17 ∨ i = 18 ∨ i = 19 ∨ i = 20 ∨ i = 21 ∨ i = 22 ∨ i = 23 ∨ i = 24 ∨ i = 25 ∨ i = 26 ∨ i = 27 ∨ i = 28 ∨ i = 29 ∨ i = 30 ∨ i = 31 ∨ i = 32 ∨ i = 33 ∨ i = 34 ∨ i = 35 ∨ i = 36 ∨ i = 37 ∨ i = 38 ∨ i = 39 ∨ i = 40 ∨ i = 41 ∨ i = 42 ∨ i = 43 ∨ i = 44 ∨ i = 45 ∨ i = 46 ∨ i = 47 ∨ i = 48 ∨ i = 49 ∨ i = 50 ∨ i = 51 ∨ i = 52 ∨ i = 53 ∨ i = 54 ∨ i = 55 ∨ i = 56 ∨ i = 57 ∨ i = 58 ∨ i = 59 ∨ i = 60 ∨ i = 61 ∨ i = 62 ∨ i = 63 ∨ i = 64 ∨ i = 65 ∨ i = 66 ∨ i = 67 ∨ i = 68 ∨ i = 69 ∨ i = 70 ∨ i = 71 ∨ i = 72 ∨ i = 73 ∨ i = 74 ∨ i = 75 ∨ i = 76 ∨ i = 77 ∨ i = 78 ∨ i = 79 ∨ i = 80 ∨ i = 81 ∨ i = 82 ∨ i = 83 ∨ i = 84 ∨ i = 85 ∨ i = 86) with rfl | rfl | rfl | rfl | rfl | rfl | rfl | rfl | rfl | rfl | rfl | rfl | rfl | rfl | rfl | rfl | rfl | rfl | rfl | rfl | rfl | rfl | rfl | rfl | rfl | rfl | rfl | rfl | rfl | rfl | rfl | rfl | rfl | rfl | rfl | rfl | rfl | rfl | rfl | rfl | rfl | rfl | rfl | rfl | rfl | rfl | rfl | rfl | rfl | rfl | rfl | rfl | rfl | rfl | rfl | rfl | rfl | rfl | rfl | rfl | rfl | rfl | rfl | rfl | rfl | rfl | rfl | rfl | rfl | rfl | rfl | rfl | rfl | rfl | rfl | rfl | rfl | rfl | rfl | rfl | rfl | rfl | rfl | rfl | rfl | rfl | rfl
 all_goals assumption
set_option maxHeartbeats 32000000 in
set_option maxRecDepth 100000 in
theorem head (w : World) : Calls Tryz.prog 23 #[] w fun e w' => e = .returned (.bool true) ∧ Below w.heap.size w w' := by
 have hu23 := Tryz.underlying23
 have hu39 := Tryz.underlying59
 have hu113 := Tryz.underlying100
 go_enter Tryz.func23, Tryz.ntmps23
 go_wp2_with fail
 refine (lnew_yes 1 1 w (by decide)).mono ?_
 rintro e w1 ⟨p, b, g, rfl, hb1, hL⟩
 have X := Aside0.mk (HS.new w w1 (by decide) hb1 hL)
 clear hb1 hL
 dsimp only
 go_wp2_with fail
 refine (lof 5 2 9 _).mono ?_
 rintro e w2 ⟨rfl, hb⟩
 replace X := Aside0.mk (X.out.same hb)
 clear hb
 dsimp only
 go_wp2_with fail
 refine (X.out.join 5 2 9 (by decide)).mono ?_
 rintro e w3 ⟨rfl, hS⟩
 rw [show code 1 1 [] ⟨5, ⟨2, 9⟩⟩ = 0 by decide]
 rw [show nsJ 1 1 [] ⟨5, ⟨2, 9⟩⟩ = [m5] by rfl] at hS
 replace X := Aside0.mk hS
 clear hS
 dsimp only
 go_wp2_with fail
 refine (lof 3 1 1 _).mono ?_
 rintro e w4 ⟨rfl, hb⟩
 replace X := Aside0.mk (X.out.same hb)
 clear hb
 dsimp only
 go_wp2_with fail
 refine (X.out.join 3 1 1 (by decide)).mono ?_
 rintro e w5 ⟨rfl, hS⟩
 rw [show code 1 1 [m5] ⟨3, ⟨1, 1⟩⟩ = 0 by decide]
 rw [show nsJ 1 1 [m5] ⟨3, ⟨1, 1⟩⟩ = [m3, m5] by rfl] at hS
 replace X := Aside0.mk hS
 clear hS
 dsimp only
 go_wp2_with fail
 refine (X.out.give 7 2 false (by decide)).mono ?_
 rintro e w6 ⟨va, v1, rfl, hS⟩
 rw [show gcode 1 1 [m3, m5] [] 7 2 = 0 by decide]
 rw [show given 1 1 [m3, m5] [] 0 7 false 2 = [b1, b2] by rfl] at hS
 obtain ⟨A1, c1, e1⟩ := Kd.R_slice (hS.rows _ (List.mem_cons_self ..)).1
 dsimp only [List.length_cons, List.length_nil] at e1
 subst e1
 replace X := Aside0.mk hS
 clear hS
 dsimp only
 go_wp2_with fail
 refine X.out.free.mono ?_
 rintro e w7 ⟨rfl, hb⟩
 rw [show freeN 1 1 [m3, m5] ([] ++ [b1, b2]) = 1 by rfl]
 replace X := Aside0.mk (X.out.same hb)
 clear hb
 dsimp only
 go_wp2_with fail
 refine (X.out.give 8 2 true (by decide)).mono ?_
 rintro e w8 ⟨vb, v2, rfl, hS⟩
 rw [show gcode 1 1 [m3, m5] ([] ++ [b1, b2]) 8 2 = 6 by rfl]
 rw [show given 1 1 [m3, m5] ([] ++ [b1, b2]) (0 + ([b1, b2] : List Bx).length) 8 true 2 = [] by rfl] at hS
 obtain ⟨A2, c2, e1⟩ := Kd.R_slice (hS.rows _ (List.mem_cons_self ..)).1
 dsimp only [List.length_cons, List.length_nil] at e1
 subst e1
 replace X := Aside0.mk hS
 clear hS
 dsimp only
 go_wp2_with fail
 refine (X.out.give 8 1 true (by decide)).mono ?_
 rintro e w9 ⟨vd, v3, rfl, hS⟩
 obtain ⟨bx, hbx⟩ : ∃ bx, (([] : List Bx) ++ [b1, b2] ++ []) = bx := ⟨_, rfl⟩
 rw [show gcode 1 1 [m3, m5] ([] ++ [b1, b2] ++ []) 8 1 = 0 by rfl]
 rw [show given 1 1 [m3, m5] ([] ++ [b1, b2] ++ []) (0 + ([b1, b2] : List Bx).length + ([] : List Bx).length) 8 true 1 = [b3] by rfl] at hS
 replace hS : HS w w9 p b g 1 1 [m3, m5] v3 [b1, b2, b3] 3 _ := hS
 obtain ⟨A3, c3, e1⟩ := Kd.R_slice (hS.rows _ (List.mem_cons_self ..)).1
 dsimp only [List.length_cons, List.length_nil] at e1
 subst e1
 replace X := Aside0.mk hS
 clear hS hbx bx
 dsimp only
 go_wp2_with fail
 refine (X.out.room 5 (by decide)).mono ?_
 rintro e w10 ⟨rfl, hb⟩
 rw [show roomN 1 1 [m3, m5] [b1, b2, b3] 5 = 0 by rfl]
 replace X := Aside0.mk (X.out.same hb)
 clear hb
 dsimp only
 go_wp2_with fail
 refine (X.out.take 7 1 false).mono ?_
 rintro e w11 ⟨vi, v4, rfl, hS⟩
 rw [show tcode [b1, b2, b3] 7 false 1 = 0 by rfl]
 rw [show taken [b1, b2, b3] 7 false 1 = [b2] by rfl] at hS
 rw [show leftN [b1, b2, b3] [b2] = [b1, b3] by rfl] at hS
 obtain ⟨A4, c4, e1⟩ := Kd.R_slice (hS.rows _ (List.mem_cons_self ..)).1
 dsimp only [List.length_cons, List.length_nil] at e1
 subst e1
 replace X := Aside0.mk hS
 clear hS
 dsimp only
 go_wp2_with fail
 refine (X.out.lose 5 (by decide)).mono ?_
 rintro e w12 ⟨vk, v5, rfl, hS⟩
 rw [show (lost [m3, m5] 5).2 = 0 by rfl]
 rw [show onN [b1, b3] 5 = [b3] by rfl, show offN [b1, b3] 5 = [b1] by rfl, show less [m3, m5] 5 = [m3] by rfl] at hS
 obtain ⟨A5, c5, e1⟩ := Kd.R_slice (hS.rows _ (List.mem_cons_self ..)).1
 dsimp only [List.length_cons, List.length_nil] at e1
 subst e1
 replace X := Aside0.mk hS
 clear hS
 dsimp only
 go_wp2_with fail
 refine (X.out.take 7 2 false).mono ?_
 rintro e w13 ⟨vm, v6, rfl, hS⟩
 rw [show tcode [b1] 7 false 2 = 7 by rfl]
 rw [show taken [b1] 7 false 2 = [] by rfl, left_nil] at hS
 obtain ⟨A6, c6, e1⟩ := Kd.R_slice (hS.rows _ (List.mem_cons_self ..)).1
 dsimp only [List.length_cons, List.length_nil] at e1
 subst e1
 replace X := Aside0.mk hS
 clear hS
 dsimp only
 go_wp2_with fail
 refine (X.out.give 0 1 false (by decide)).mono ?_
 rintro e w14 ⟨vn, v7, rfl, hS⟩
 rw [show gcode 1 1 [m3] [b1] 0 1 = 2 by rfl]
 rw [show given 1 1 [m3] [b1] 3 0 false 1 = [] by rfl, List.append_nil] at hS
 obtain ⟨A7, c7, e1⟩ := Kd.R_slice (hS.rows _ (List.mem_cons_self ..)).1
 dsimp only [List.length_cons, List.length_nil] at e1
 subst e1
 replace X := Aside0.mk hS
 clear hS
 dsimp only
 go_upto_region 14 with (fail)
 have R4 : RB w14 w.heap.size (.slice A4 1 c4) [b2] := (X.out.rows (.slice A4 1 c4, [b2]) (by simp)).1
 have R5 : RB w14 w.heap.size (.slice A5 1 c5) [b3] := (X.out.rows (.slice A5 1 c5, [b3]) (by simp)).1
 have CR : Aside0 (RB w14 w.heap.size (.slice A1 2 c1) [b1, b2]) := ⟨(X.out.rows (.slice A1 2 c1, [b1, b2]) (by simp)).1⟩
 have DR : Aside0 (RB w14 w.heap.size (.slice A3 1 c3) [b3]) := ⟨(X.out.rows (.slice A3 1 c3, [b3]) (by simp)).1⟩
 obtain ⟨a4, rfl, i0, _⟩ := PLedLib.at_T100 (Kd.R_reads' R4).2.2 0 (by decide) (by decide)
 obtain ⟨a5, rfl, j0, _⟩ := PLedLib.at_T100 (Kd.R_reads' R5).2.2 0 (by decide) (by decide)
 have add0 : ∀ a : Addr, a.add ((0 : Int).toNat * 4) = a := fun a => by cases a; rfl
 rw [add0] at i0 j0
 have IJ : Aside0 (w14.cell? a4 = some (.int .u32 2) ∧ w14.cell? a5 = some (.int .u32 3)) := ⟨i0, j0⟩
 have CT : Aside0 (∀ w', Below w14.heap.size w14 w' → Kd.C PLedLib.k100 w' A1 1 [b1]) := ⟨fun w' h => Kd.C_take (m := 1) (Kd.C_below (Kd.R_reads' CR.out).2.2 h) (show 1 ≤ [b1, b2].length by decide)⟩
 have LC : Aside0 (1 ≤ c1) := ⟨Nat.le_trans (show 1 ≤ 2 by decide) (Kd.R_reads' CR.out).2.1⟩
 clear R4 R5 add0
 clear i0 j0
 obtain ⟨ii, hii, _, hsz, _⟩ := info_parts PLedLib.info100
 have hcut := cut_to (P := Tryz.prog) 34 100 .i64 Tryz.underlying34 hii A1 2 c1 1 (by decide) (by decide) (Kd.R_reads' CR.out).2.1
 simp only [Int.toNat_one] at hcut
 clear hii hsz
 simp only [List.append_eq, List.cons_append, List.nil_append]
 refine XInv.region_tab [] [[], [0], [1], [2], [3, 2], [2, 4], [5, 2], [6], [6], [6], [8, 9, 6], [7, 10, 6, 6], [6, 11], [12, 11], [13], [14, 13], [13, 15], [16, 13], [17], [18, 17], [17, 19], [20, 17], [21], [22, 21], [21, 23], [24, 21], [25], [25], [27, 25], [26, 28, 25, 25], [25, 29], [30, 29], [31], [32, 31], [31, 33], [34, 31], [35], [36, 35], [35, 37], [38, 35], [39], [40, 39], [41, 39], [39, 42], [43, 39], [44], [45, 44], [46, 44], [47, 44], [48, 44], [44, 49], [50, 44], [51], [52, 51], [51, 53], [54, 51], [55], [56, 55], [57, 55], [55, 58], [59, 55], [60], [61, 60], [62, 60], [63, 60], [64, 60], [60, 65], [66, 60], [67], [68, 67], [67, 69], [70, 67], [71], [72, 71, 71], [71], [74, 71], [73, 75, 73, 71], [71, 76], [77, 76], [78], [79, 78], [78, 80], [81, 78], [82], [83, 82], [82, 84], [85, 82, 0, 1, 2, 3, 4, 5, 6, 7, 8, 9, 10, 11, 12, 13, 14, 15, 16, 17, 18, 19, 20, 21, 22, 23, 24, 25, 26, 27, 28, 29, 30, 31, 32, 33, 34, 35, 36, 37, 38, 39, 40, 41, 42, 43, 44, 45, 46, 47, 48, 49, 50, 51, 52, 53, 54, 55, 56, 57, 58, 59, 60, 61, 62, 63, 64, 65, 66, 67, 68, 69, 70, 71, 72, 73, 74, 75, 76, 77, 78, 79, 80, 81, 82, 83, 84, 85]] (fun bq jq => match jq with
   | 0 => .int .i64 0
   | 1 => .bool true
   | 2 => .bool true
   | 3 => .int .i64 0
   | 4 => .bool true
   | 5 => .bool true
   | 6 => .bool true
   | 7 => .slice A1 2 c1
   | 8 => .agg #[.int .u32 1, .int .u32 3, .int .u32 7, .bool false]
   | 9 => .agg #[.int .u32 2, .int .u32 5, .int .u32 7, .bool false]
   | 10 => .slice (some ⟨bq.1, 0, none⟩) 2 2
   | 11 => .bool true
   | 12 => .bool true
   | 13 => .bool true
   | 14 => .int .i64 0
   | 15 => .bool true
   | 16 => .bool true
   | 17 => .bool true
   | 18 => .int .i64 1
   | 19 => .bool true
   | 20 => .bool true
   | 21 => .bool true
   | 22 => .int .i64 6
   | 23 => .bool true
   | 24 => .bool true
   | 25 => .bool true
   | 26 => .slice A3 1 c3
   | 27 => .agg #[.int .u32 3, .int .u32 5, .int .u32 8, .bool true]
   | 28 => .slice (some ⟨bq.2.1, 0, none⟩) 1 1
   | 29 => .bool true
   | 30 => .bool true
   | 31 => .bool true
   | 32 => .int .i64 0
   | 33 => .bool true
   | 34 => .bool true
   | 35 => .bool true
   | 36 => .int .i64 0
   | 37 => .bool true
   | 38 => .bool true
   | 39 => .bool true
   | 40 => .slice (some a4) 1 c4
   | 41 => .int .i64 1
   | 42 => .bool true
   | 43 => .bool true
   | 44 => .bool true
   | 45 => .slice (some a4) 1 c4
   | 46 => .pointer (some a4)
   | 47 => .pointer (some a4)
   | 48 => .int .u32 2
   | 49 => .bool true
   | 50 => .bool true
   | 51 => .bool true
   | 52 => .int .i64 0
   | 53 => .bool true
   | 54 => .bool true
   | 55 => .bool true
   | 56 => .slice (some a5) 1 c5
   | 57 => .int .i64 1
   | 58 => .bool true
   | 59 => .bool true
   | 60 => .bool true
   | 61 => .slice (some a5) 1 c5
   | 62 => .pointer (some a5)
   | 63 => .pointer (some a5)
   | 64 => .int .u32 3
   | 65 => .bool true
   | 66 => .bool true
   | 67 => .bool true
   | 68 => .int .i64 0
   | 69 => .bool true
   | 70 => .bool true
   | 71 => .bool true
   | 72 => .pointer (some ⟨p, 0, none⟩)
   | 73 => .slice bq.2.2.1 1 bq.2.2.2
   | 74 => .slice A1 2 c1
   | 75 => .slice A1 1 c1
   | 76 => .bool true
   | 77 => .bool true
   | 78 => .bool true
   | 79 => .int .i64 7
   | 80 => .bool true
   | 81 => .bool true
   | 82 => .bool true
   | 83 => .int .i64 2
   | 84 => .bool true
   | 85 => .bool true
   | 86 => .bool true
   | _ => undef)
   (fun bq l w' => if l 73 = true then (Below w14.heap.size w14 w' ∧ Kd.C PLedLib.k100 w' bq.2.2.1 1 [b1] ∧ 1 ≤ bq.2.2.2) else if l 28 = true then (Below w14.heap.size w14 w' ∧ Kd.C PLedLib.k100 w' (some ⟨bq.2.1, 0, none⟩) 1 [b3]) else if l 10 = true then (Below w14.heap.size w14 w' ∧ Kd.C PLedLib.k100 w' (some ⟨bq.1, 0, none⟩) 2 [b1, b2]) else Below w14.heap.size w14 w')
   (by kernel_rfl) rfl (by kernel_rfl) (by kernel_rfl) (by kernel_rfl) ⟨((0, 0, none, 0) : Nat × Nat × Option Addr × Nat), (by rw [if_neg (by simp)]; rw [if_neg (by simp)]; rw [if_neg (by simp)]; exact below_drew (Below.refl _ _))⟩ ?_ ?_
 ·refine cs87 _ ?_ ?_ ?_ ?_ ?_ ?_ ?_ ?_ ?_ ?_ ?_ ?_ ?_ ?_ ?_ ?_ ?_ ?_ ?_ ?_ ?_ ?_ ?_ ?_ ?_ ?_ ?_ ?_ ?_ ?_ ?_ ?_ ?_ ?_ ?_ ?_ ?_ ?_ ?_ ?_ ?_ ?_ ?_ ?_ ?_ ?_ ?_ ?_ ?_ ?_ ?_ ?_ ?_ ?_ ?_ ?_ ?_ ?_ ?_ ?_ ?_ ?_ ?_ ?_ ?_ ?_ ?_ ?_ ?_ ?_ ?_ ?_ ?_ ?_ ?_ ?_ ?_ ?_ ?_ ?_ ?_ ?_ ?_ ?_ ?_ ?_ ?_
  all_goals intro hds oi hoi bq lb w' hW hlb hcl hneed hclo
  all_goals simp only [List.getElem?_toArray, List.getElem?_cons_succ, List.getElem?_cons_zero, Option.some.injEq] at hoi
  all_goals subst hoi
  ·refine XInv.yes_tab [] (by kernel_rfl) ?_
   have hs0 : lb 10 = false := (Bool.eq_false_or_eq_true (lb 10)).elim (fun h => absurd (XInv.reach hclo [6, 2, 1] 10 0 (by kernel_rfl) h) (by rw [hlb]; decide)) id
   have hs1 : lb 28 = false := (Bool.eq_false_or_eq_true (lb 28)).elim (fun h => absurd (XInv.reach hclo [25, 21, 17, 13, 11, 6, 2, 1] 28 0 (by kernel_rfl) h) (by rw [hlb]; decide)) id
   have hs2 : lb 73 = false := (Bool.eq_false_or_eq_true (lb 73)).elim (fun h => absurd (XInv.reach hclo [71, 67, 60, 55, 51, 44, 39, 35, 31, 29, 25, 21, 17, 13, 11, 6, 2, 1] 73 0 (by kernel_rfl) h) (by rw [hlb]; decide)) id
   rw [if_neg (by rw [hs2]; decide)] at hW
   rw [if_neg (by rw [hs1]; decide)] at hW
   rw [if_neg (by rw [hs0]; decide)] at hW
   have hB := hW
   clear hcl hneed hclo
   intro Q2 K2 hK2
   simp only [XInv.puts, XPrint.pw]
   go_simp
   exact hK2.out (.int .i64 0) w' ⟨bq, rfl, fun _ _ _ => rfl, (by rw [if_neg (by simp [XInv.up, hs2])]; rw [if_neg (by simp [XInv.up, hs1])]; rw [if_neg (by simp [XInv.up, hs0])]; exact hW)⟩
  ·refine XInv.yes_tab [(77, 0)] (by kernel_rfl) ?_
   have hs0 : lb 10 = false := (Bool.eq_false_or_eq_true (lb 10)).elim (fun h => absurd (XInv.reach hclo [6, 2] 10 1 (by kernel_rfl) h) (by rw [hlb]; decide)) id
   have hs1 : lb 28 = false := (Bool.eq_false_or_eq_true (lb 28)).elim (fun h => absurd (XInv.reach hclo [25, 21, 17, 13, 11, 6, 2] 28 1 (by kernel_rfl) h) (by rw [hlb]; decide)) id
   have hs2 : lb 73 = false := (Bool.eq_false_or_eq_true (lb 73)).elim (fun h => absurd (XInv.reach hclo [71, 67, 60, 55, 51, 44, 39, 35, 31, 29, 25, 21, 17, 13, 11, 6, 2] 73 1 (by kernel_rfl) h) (by rw [hlb]; decide)) id
   rw [if_neg (by rw [hs2]; decide)] at hW
   rw [if_neg (by rw [hs1]; decide)] at hW
   rw [if_neg (by rw [hs0]; decide)] at hW
   have hB := hW
   clear hcl hneed hclo
   intro Q2 K2 hK2
   simp only [XInv.puts, XPrint.pw]
   go_simp
   exact hK2.out (.bool true) w' ⟨bq, rfl, fun _ _ _ => rfl, (by rw [if_neg (by simp [XInv.up, hs2])]; rw [if_neg (by simp [XInv.up, hs1])]; rw [if_neg (by simp [XInv.up, hs0])]; exact hW)⟩
  ·refine XInv.yes_tab [(78, 1)] (by kernel_rfl) ?_
   have hs0 : lb 10 = false := (Bool.eq_false_or_eq_true (lb 10)).elim (fun h => absurd (XInv.reach hclo [6] 10 2 (by kernel_rfl) h) (by rw [hlb]; decide)) id
   have hs1 : lb 28 = false := (Bool.eq_false_or_eq_true (lb 28)).elim (fun h => absurd (XInv.reach hclo [25, 21, 17, 13, 11, 6] 28 2 (by kernel_rfl) h) (by rw [hlb]; decide)) id
   have hs2 : lb 73 = false := (Bool.eq_false_or_eq_true (lb 73)).elim (fun h => absurd (XInv.reach hclo [71, 67, 60, 55, 51, 44, 39, 35, 31, 29, 25, 21, 17, 13, 11, 6] 73 2 (by kernel_rfl) h) (by rw [hlb]; decide)) id
   rw [if_neg (by rw [hs2]; decide)] at hW
   rw [if_neg (by rw [hs1]; decide)] at hW
   rw [if_neg (by rw [hs0]; decide)] at hW
   have hB := hW
   clear hcl hneed hclo
   intro Q2 K2 hK2
   simp only [XInv.puts, XPrint.pw]
   go_simp
   exact hK2.out (.bool true) w' ⟨bq, rfl, fun _ _ _ => rfl, (by rw [if_neg (by simp [XInv.up, hs2])]; rw [if_neg (by simp [XInv.up, hs1])]; rw [if_neg (by simp [XInv.up, hs0])]; exact hW)⟩
  ·refine XInv.yes_tab [(79, 2)] (by kernel_rfl) ?_
   have hs0 : lb 10 = false := (Bool.eq_false_or_eq_true (lb 10)).elim (fun h => absurd (XInv.reach hclo [6, 5, 4] 10 3 (by kernel_rfl) h) (by rw [hlb]; decide)) id
   have hs1 : lb 28 = false := (Bool.eq_false_or_eq_true (lb 28)).elim (fun h => absurd (XInv.reach hclo [25, 21, 17, 13, 11, 6, 5, 4] 28 3 (by kernel_rfl) h) (by rw [hlb]; decide)) id
   have hs2 : lb 73 = false := (Bool.eq_false_or_eq_true (lb 73)).elim (fun h => absurd (XInv.reach hclo [71, 67, 60, 55, 51, 44, 39, 35, 31, 29, 25, 21, 17, 13, 11, 6, 5, 4] 73 3 (by kernel_rfl) h) (by rw [hlb]; decide)) id
   rw [if_neg (by rw [hs2]; decide)] at hW
   rw [if_neg (by rw [hs1]; decide)] at hW
   rw [if_neg (by rw [hs0]; decide)] at hW
   have hB := hW
   clear hcl hneed hclo
   intro Q2 K2 hK2
   simp only [XInv.puts, XPrint.pw]
   go_simp
   exact hK2.out (.int .i64 0) w' ⟨bq, rfl, fun _ _ _ => rfl, (by rw [if_neg (by simp [XInv.up, hs2])]; rw [if_neg (by simp [XInv.up, hs1])]; rw [if_neg (by simp [XInv.up, hs0])]; exact hW)⟩
  ·refine XInv.yes_tab [(80, 3), (79, 2)] (by kernel_rfl) ?_
   have hs0 : lb 10 = false := (Bool.eq_false_or_eq_true (lb 10)).elim (fun h => absurd (XInv.reach hclo [6, 5] 10 4 (by kernel_rfl) h) (by rw [hlb]; decide)) id
   have hs1 : lb 28 = false := (Bool.eq_false_or_eq_true (lb 28)).elim (fun h => absurd (XInv.reach hclo [25, 21, 17, 13, 11, 6, 5] 28 4 (by kernel_rfl) h) (by rw [hlb]; decide)) id
   have hs2 : lb 73 = false := (Bool.eq_false_or_eq_true (lb 73)).elim (fun h => absurd (XInv.reach hclo [71, 67, 60, 55, 51, 44, 39, 35, 31, 29, 25, 21, 17, 13, 11, 6, 5] 73 4 (by kernel_rfl) h) (by rw [hlb]; decide)) id
   rw [if_neg (by rw [hs2]; decide)] at hW
   rw [if_neg (by rw [hs1]; decide)] at hW
   rw [if_neg (by rw [hs0]; decide)] at hW
   have hB := hW
   clear hcl hneed hclo
   intro Q2 K2 hK2
   simp only [XInv.puts, XPrint.pw]
   go_simp
   exact hK2.out (.bool true) w' ⟨bq, rfl, fun _ _ _ => rfl, (by rw [if_neg (by simp [XInv.up, hs2])]; rw [if_neg (by simp [XInv.up, hs1])]; rw [if_neg (by simp [XInv.up, hs0])]; exact hW)⟩
  ·refine XInv.yes_tab [(81, 4), (79, 2)] (by kernel_rfl) ?_
   have hs0 : lb 10 = false := (Bool.eq_false_or_eq_true (lb 10)).elim (fun h => absurd (XInv.reach hclo [6] 10 5 (by kernel_rfl) h) (by rw [hlb]; decide)) id
   have hs1 : lb 28 = false := (Bool.eq_false_or_eq_true (lb 28)).elim (fun h => absurd (XInv.reach hclo [25, 21, 17, 13, 11, 6] 28 5 (by kernel_rfl) h) (by rw [hlb]; decide)) id
   have hs2 : lb 73 = false := (Bool.eq_false_or_eq_true (lb 73)).elim (fun h => absurd (XInv.reach hclo [71, 67, 60, 55, 51, 44, 39, 35, 31, 29, 25, 21, 17, 13, 11, 6] 73 5 (by kernel_rfl) h) (by rw [hlb]; decide)) id
   rw [if_neg (by rw [hs2]; decide)] at hW
   rw [if_neg (by rw [hs1]; decide)] at hW
   rw [if_neg (by rw [hs0]; decide)] at hW
   have hB := hW
   clear hcl hneed hclo
   intro Q2 K2 hK2
   simp only [XInv.puts, XPrint.pw]
   go_simp
   exact hK2.out (.bool true) w' ⟨bq, rfl, fun _ _ _ => rfl, (by rw [if_neg (by simp [XInv.up, hs2])]; rw [if_neg (by simp [XInv.up, hs1])]; rw [if_neg (by simp [XInv.up, hs0])]; exact hW)⟩
  ·refine XInv.yes_tab [(82, 5), (79, 2)] (by kernel_rfl) ?_
   have hs0 := hcl 10 (by decide) (by kernel_rfl)
   have hs1 : lb 28 = false := (Bool.eq_false_or_eq_true (lb 28)).elim (fun h => absurd (XInv.reach hclo [25, 21, 17, 13, 11] 28 6 (by kernel_rfl) h) (by rw [hlb]; decide)) id
   have hs2 : lb 73 = false := (Bool.eq_false_or_eq_true (lb 73)).elim (fun h => absurd (XInv.reach hclo [71, 67, 60, 55, 51, 44, 39, 35, 31, 29, 25, 21, 17, 13, 11] 73 6 (by kernel_rfl) h) (by rw [hlb]; decide)) id
   rw [if_neg (by rw [hs2]; decide)] at hW
   rw [if_neg (by rw [hs1]; decide)] at hW
   rw [if_neg (by rw [hs0]; decide)] at hW
   have hB := hW
   clear hcl hneed hclo
   intro Q2 K2 hK2
   simp only [XInv.puts, XPrint.pw]
   go_simp
   exact hK2.out (.bool true) w' ⟨bq, rfl, fun _ _ _ => rfl, (by rw [if_neg (by simp [XInv.up, hs2])]; rw [if_neg (by simp [XInv.up, hs1])]; rw [if_neg (by simp [XInv.up, hs0])]; exact hW)⟩
  ·refine XInv.yes_tab [(83, 6)] (by kernel_rfl) ?_
   have hs1 : lb 28 = false := (Bool.eq_false_or_eq_true (lb 28)).elim (fun h => absurd (XInv.reach hclo [25, 21, 17, 13, 11] 28 7 (by kernel_rfl) h) (by rw [hlb]; decide)) id
   have hs2 : lb 73 = false := (Bool.eq_false_or_eq_true (lb 73)).elim (fun h => absurd (XInv.reach hclo [71, 67, 60, 55, 51, 44, 39, 35, 31, 29, 25, 21, 17, 13, 11] 73 7 (by kernel_rfl) h) (by rw [hlb]; decide)) id
   cases hs0 : lb 10
   case false =>
    rw [if_neg (by rw [hs2]; decide)] at hW
    rw [if_neg (by rw [hs1]; decide)] at hW
    rw [if_neg (by rw [hs0]; decide)] at hW
    have hB := hW
    clear hcl hneed hclo
    intro Q2 K2 hK2
    simp only [XInv.puts, XPrint.pw]
    go_simp
    exact hK2.out (.slice A1 2 c1) w' ⟨bq, rfl, fun _ _ _ => rfl, (by rw [if_neg (by simp [XInv.up, hs2])]; rw [if_neg (by simp [XInv.up, hs1])]; rw [if_neg (by simp [XInv.up, hs0])]; exact hW)⟩
   case true =>
    rw [if_neg (by rw [hs2]; decide)] at hW
    rw [if_neg (by rw [hs1]; decide)] at hW
    rw [if_pos hs0] at hW
    have hB := hW.1
    clear hcl hneed hclo
    intro Q2 K2 hK2
    simp only [XInv.puts, XPrint.pw]
    go_simp
    exact hK2.out (.slice A1 2 c1) w' ⟨bq, rfl, fun _ _ _ => rfl, (by rw [if_neg (by simp [XInv.up, hs2])]; rw [if_neg (by simp [XInv.up, hs1])]; rw [if_pos (by simp [XInv.up, hs0])]; exact hW)⟩
  ·refine XInv.yes_tab [(83, 6)] (by kernel_rfl) ?_
   have hs0 := hcl 10 (by decide) (by kernel_rfl)
   have hs1 : lb 28 = false := (Bool.eq_false_or_eq_true (lb 28)).elim (fun h => absurd (XInv.reach hclo [25, 21, 17, 13, 11, 10] 28 8 (by kernel_rfl) h) (by rw [hlb]; decide)) id
   have hs2 : lb 73 = false := (Bool.eq_false_or_eq_true (lb 73)).elim (fun h => absurd (XInv.reach hclo [71, 67, 60, 55, 51, 44, 39, 35, 31, 29, 25, 21, 17, 13, 11, 10] 73 8 (by kernel_rfl) h) (by rw [hlb]; decide)) id
   rw [if_neg (by rw [hs2]; decide)] at hW
   rw [if_neg (by rw [hs1]; decide)] at hW
   rw [if_neg (by rw [hs0]; decide)] at hW
   have hB := hW
   clear hcl hneed hclo
   intro Q2 K2 hK2
   simp only [XInv.puts, XPrint.pw]
   go_simp
   exact hK2.out (.agg #[.int .u32 1, .int .u32 3, .int .u32 7, .bool false]) w' ⟨bq, rfl, fun _ _ _ => rfl, (by rw [if_neg (by simp [XInv.up, hs2])]; rw [if_neg (by simp [XInv.up, hs1])]; rw [if_neg (by simp [XInv.up, hs0])]; exact hW)⟩
  ·refine XInv.yes_tab [(83, 6)] (by kernel_rfl) ?_
   have hs0 := hcl 10 (by decide) (by kernel_rfl)
   have hs1 : lb 28 = false := (Bool.eq_false_or_eq_true (lb 28)).elim (fun h => absurd (XInv.reach hclo [25, 21, 17, 13, 11, 10] 28 9 (by kernel_rfl) h) (by rw [hlb]; decide)) id
   have hs2 : lb 73 = false := (Bool.eq_false_or_eq_true (lb 73)).elim (fun h => absurd (XInv.reach hclo [71, 67, 60, 55, 51, 44, 39, 35, 31, 29, 25, 21, 17, 13, 11, 10] 73 9 (by kernel_rfl) h) (by rw [hlb]; decide)) id
   rw [if_neg (by rw [hs2]; decide)] at hW
   rw [if_neg (by rw [hs1]; decide)] at hW
   rw [if_neg (by rw [hs0]; decide)] at hW
   have hB := hW
   clear hcl hneed hclo
   intro Q2 K2 hK2
   simp only [XInv.puts, XPrint.pw]
   go_simp
   exact hK2.out (.agg #[.int .u32 2, .int .u32 5, .int .u32 7, .bool false]) w' ⟨bq, rfl, fun _ _ _ => rfl, (by rw [if_neg (by simp [XInv.up, hs2])]; rw [if_neg (by simp [XInv.up, hs1])]; rw [if_neg (by simp [XInv.up, hs0])]; exact hW)⟩
  ·refine XInv.yes_tab [(86, 9), (85, 8), (83, 6)] (by kernel_rfl) ?_
   have hs0 := hlb
   have hs1 : lb 28 = false := (Bool.eq_false_or_eq_true (lb 28)).elim (fun h => absurd (XInv.reach hclo [25, 21, 17, 13, 11] 28 10 (by kernel_rfl) h) (by rw [hlb]; decide)) id
   have hs2 : lb 73 = false := (Bool.eq_false_or_eq_true (lb 73)).elim (fun h => absurd (XInv.reach hclo [71, 67, 60, 55, 51, 44, 39, 35, 31, 29, 25, 21, 17, 13, 11] 73 10 (by kernel_rfl) h) (by rw [hlb]; decide)) id
   rw [if_neg (by rw [hs2]; decide)] at hW
   rw [if_neg (by rw [hs1]; decide)] at hW
   rw [if_neg (by rw [hs0]; decide)] at hW
   have hB := hW
   clear hcl hneed
   intro Q2 K2 hK2
   simp only [XInv.puts, XPrint.pw]
   go_simp
   exact hK2.out (.slice (some ⟨w'.heap.size, 0, none⟩) 2 2) _ ⟨(w'.heap.size, bq.2), rfl, (cs87 _ (fun _ => rfl) (fun _ => rfl) (fun _ => rfl) (fun _ => rfl) (fun _ => rfl) (fun _ => rfl) (fun _ => rfl) (fun _ => rfl) (fun _ => rfl) (fun _ => rfl) (fun hlj => absurd (hlb.symm.trans hlj) (by decide)) (fun _ => rfl) (fun _ => rfl) (fun _ => rfl) (fun _ => rfl) (fun _ => rfl) (fun _ => rfl) (fun _ => rfl) (fun _ => rfl) (fun _ => rfl) (fun _ => rfl) (fun _ => rfl) (fun _ => rfl) (fun _ => rfl) (fun _ => rfl) (fun _ => rfl) (fun _ => rfl) (fun _ => rfl) (fun _ => rfl) (fun _ => rfl) (fun _ => rfl) (fun _ => rfl) (fun _ => rfl) (fun _ => rfl) (fun _ => rfl) (fun _ => rfl) (fun _ => rfl) (fun _ => rfl) (fun _ => rfl) (fun _ => rfl) (fun _ => rfl) (fun _ => rfl) (fun _ => rfl) (fun _ => rfl) (fun _ => rfl) (fun _ => rfl) (fun _ => rfl) (fun _ => rfl) (fun _ => rfl) (fun _ => rfl) (fun _ => rfl) (fun _ => rfl) (fun _ => rfl) (fun _ => rfl) (fun _ => rfl) (fun _ => rfl) (fun _ => rfl) (fun _ => rfl) (fun _ => rfl) (fun _ => rfl) (fun _ => rfl) (fun _ => rfl) (fun _ => rfl) (fun _ => rfl) (fun _ => rfl) (fun _ => rfl) (fun _ => rfl) (fun _ => rfl) (fun _ => rfl) (fun _ => rfl) (fun _ => rfl) (fun _ => rfl) (fun _ => rfl) (fun _ => rfl) (fun _ => rfl) (fun _ => rfl) (fun _ => rfl) (fun _ => rfl) (fun _ => rfl) (fun _ => rfl) (fun _ => rfl) (fun _ => rfl) (fun _ => rfl) (fun _ => rfl) (fun _ => rfl) (fun _ => rfl) (fun _ => rfl)), (by rw [if_neg (by simp [XInv.up, hs2])]; rw [if_neg (by simp [XInv.up, hs1])]; rw [if_pos (by simp [XInv.up, hs0])]; exact ⟨below_alloc hB _, lit2 w' b1 b2⟩)⟩
  ·refine XInv.yes_tab [(87, 10), (84, 7), (83, 6)] (by kernel_rfl) ?_
   have hs0 := hneed 10 (by kernel_rfl)
   have hs1 : lb 28 = false := (Bool.eq_false_or_eq_true (lb 28)).elim (fun h => absurd (XInv.reach hclo [25, 21, 17, 13] 28 11 (by kernel_rfl) h) (by rw [hlb]; decide)) id
   have hs2 : lb 73 = false := (Bool.eq_false_or_eq_true (lb 73)).elim (fun h => absurd (XInv.reach hclo [71, 67, 60, 55, 51, 44, 39, 35, 31, 29, 25, 21, 17, 13] 73 11 (by kernel_rfl) h) (by rw [hlb]; decide)) id
   rw [if_neg (by rw [hs2]; decide)] at hW
   rw [if_neg (by rw [hs1]; decide)] at hW
   rw [if_pos hs0] at hW
   have hB := hW.1
   clear hcl hneed
   intro Q2 K2 hK2
   simp only [XInv.puts, XPrint.pw]
   go_simp
   go_at_call 29
   (with_reducible refine (dsame [b1, b2] _ _ 2 _ _ _ (Kd.C_below (Kd.R_reads' CR.out).2.2 hB) hW.2 rfl (by decide)).mono ?_)
   rintro e wz ⟨rfl, hb⟩
   exact hK2.out (.bool true) wz ⟨bq, rfl, fun _ _ _ => rfl, (by rw [if_neg (by simp [XInv.up, hs2])]; rw [if_neg (by simp [XInv.up, hs1])]; rw [if_pos (by simp [XInv.up, hs0])]; exact ⟨below_step hB hb, Kd.C_below hW.2 hb⟩)⟩
  ·refine XInv.yes_tab [(88, 11), (83, 6)] (by kernel_rfl) ?_
   have hs0 := (XInv.reach hclo [] 11 10 (by kernel_rfl) (hneed 11 (by kernel_rfl)))
   have hs1 : lb 28 = false := (Bool.eq_false_or_eq_true (lb 28)).elim (fun h => absurd (XInv.reach hclo [25, 21, 17, 13] 28 12 (by kernel_rfl) h) (by rw [hlb]; decide)) id
   have hs2 : lb 73 = false := (Bool.eq_false_or_eq_true (lb 73)).elim (fun h => absurd (XInv.reach hclo [71, 67, 60, 55, 51, 44, 39, 35, 31, 29, 25, 21, 17, 13] 73 12 (by kernel_rfl) h) (by rw [hlb]; decide)) id
   rw [if_neg (by rw [hs2]; decide)] at hW
   rw [if_neg (by rw [hs1]; decide)] at hW
   rw [if_pos hs0] at hW
   have hB := hW.1
   clear hcl hneed hclo
   intro Q2 K2 hK2
   simp only [XInv.puts, XPrint.pw]
   go_simp
   exact hK2.out (.bool true) w' ⟨bq, rfl, fun _ _ _ => rfl, (by rw [if_neg (by simp [XInv.up, hs2])]; rw [if_neg (by simp [XInv.up, hs1])]; rw [if_pos (by simp [XInv.up, hs0])]; exact hW)⟩
  ·refine XInv.yes_tab [(89, 12), (88, 11)] (by kernel_rfl) ?_
   have hs0 := (XInv.reach hclo [] 11 10 (by kernel_rfl) (hneed 11 (by kernel_rfl)))
   have hs1 : lb 28 = false := (Bool.eq_false_or_eq_true (lb 28)).elim (fun h => absurd (XInv.reach hclo [25, 21, 17] 28 13 (by kernel_rfl) h) (by rw [hlb]; decide)) id
   have hs2 : lb 73 = false := (Bool.eq_false_or_eq_true (lb 73)).elim (fun h => absurd (XInv.reach hclo [71, 67, 60, 55, 51, 44, 39, 35, 31, 29, 25, 21, 17] 73 13 (by kernel_rfl) h) (by rw [hlb]; decide)) id
   rw [if_neg (by rw [hs2]; decide)] at hW
   rw [if_neg (by rw [hs1]; decide)] at hW
   rw [if_pos hs0] at hW
   have hB := hW.1
   clear hcl hneed hclo
   intro Q2 K2 hK2
   simp only [XInv.puts, XPrint.pw]
   go_simp
   exact hK2.out (.bool true) w' ⟨bq, rfl, fun _ _ _ => rfl, (by rw [if_neg (by simp [XInv.up, hs2])]; rw [if_neg (by simp [XInv.up, hs1])]; rw [if_pos (by simp [XInv.up, hs0])]; exact hW)⟩
  ·refine XInv.yes_tab [(90, 13)] (by kernel_rfl) ?_
   have hs0 := (XInv.reach hclo [11] 13 10 (by kernel_rfl) (hneed 13 (by kernel_rfl)))
   have hs1 : lb 28 = false := (Bool.eq_false_or_eq_true (lb 28)).elim (fun h => absurd (XInv.reach hclo [25, 21, 17, 16, 15] 28 14 (by kernel_rfl) h) (by rw [hlb]; decide)) id
   have hs2 : lb 73 = false := (Bool.eq_false_or_eq_true (lb 73)).elim (fun h => absurd (XInv.reach hclo [71, 67, 60, 55, 51, 44, 39, 35, 31, 29, 25, 21, 17, 16, 15] 73 14 (by kernel_rfl) h) (by rw [hlb]; decide)) id
   rw [if_neg (by rw [hs2]; decide)] at hW
   rw [if_neg (by rw [hs1]; decide)] at hW
   rw [if_pos hs0] at hW
   have hB := hW.1
   clear hcl hneed hclo
   intro Q2 K2 hK2
   simp only [XInv.puts, XPrint.pw]
   go_simp
   exact hK2.out (.int .i64 0) w' ⟨bq, rfl, fun _ _ _ => rfl, (by rw [if_neg (by simp [XInv.up, hs2])]; rw [if_neg (by simp [XInv.up, hs1])]; rw [if_pos (by simp [XInv.up, hs0])]; exact hW)⟩
  ·refine XInv.yes_tab [(91, 14), (90, 13)] (by kernel_rfl) ?_
   have hs0 := (XInv.reach hclo [11] 13 10 (by kernel_rfl) (hneed 13 (by kernel_rfl)))
   have hs1 : lb 28 = false := (Bool.eq_false_or_eq_true (lb 28)).elim (fun h => absurd (XInv.reach hclo [25, 21, 17, 16] 28 15 (by kernel_rfl) h) (by rw [hlb]; decide)) id
   have hs2 : lb 73 = false := (Bool.eq_false_or_eq_true (lb 73)).elim (fun h => absurd (XInv.reach hclo [71, 67, 60, 55, 51, 44, 39, 35, 31, 29, 25, 21, 17, 16] 73 15 (by kernel_rfl) h) (by rw [hlb]; decide)) id
   rw [if_neg (by rw [hs2]; decide)] at hW
   rw [if_neg (by rw [hs1]; decide)] at hW
   rw [if_pos hs0] at hW
   have hB := hW.1
   clear hcl hneed hclo
   intro Q2 K2 hK2
   simp only [XInv.puts, XPrint.pw]
   go_simp
   exact hK2.out (.bool true) w' ⟨bq, rfl, fun _ _ _ => rfl, (by rw [if_neg (by simp [XInv.up, hs2])]; rw [if_neg (by simp [XInv.up, hs1])]; rw [if_pos (by simp [XInv.up, hs0])]; exact hW)⟩
  ·refine XInv.yes_tab [(92, 15), (90, 13)] (by kernel_rfl) ?_
   have hs0 := (XInv.reach hclo [11] 13 10 (by kernel_rfl) (hneed 13 (by kernel_rfl)))
   have hs1 : lb 28 = false := (Bool.eq_false_or_eq_true (lb 28)).elim (fun h => absurd (XInv.reach hclo [25, 21, 17] 28 16 (by kernel_rfl) h) (by rw [hlb]; decide)) id
   have hs2 : lb 73 = false := (Bool.eq_false_or_eq_true (lb 73)).elim (fun h => absurd (XInv.reach hclo [71, 67, 60, 55, 51, 44, 39, 35, 31, 29, 25, 21, 17] 73 16 (by kernel_rfl) h) (by rw [hlb]; decide)) id
   rw [if_neg (by rw [hs2]; decide)] at hW
   rw [if_neg (by rw [hs1]; decide)] at hW
   rw [if_pos hs0] at hW
   have hB := hW.1
   clear hcl hneed hclo
   intro Q2 K2 hK2
   simp only [XInv.puts, XPrint.pw]
   go_simp
   exact hK2.out (.bool true) w' ⟨bq, rfl, fun _ _ _ => rfl, (by rw [if_neg (by simp [XInv.up, hs2])]; rw [if_neg (by simp [XInv.up, hs1])]; rw [if_pos (by simp [XInv.up, hs0])]; exact hW)⟩
  ·refine XInv.yes_tab [(93, 16), (90, 13)] (by kernel_rfl) ?_
   have hs0 := (XInv.reach hclo [11] 13 10 (by kernel_rfl) (hneed 13 (by kernel_rfl)))
   have hs1 : lb 28 = false := (Bool.eq_false_or_eq_true (lb 28)).elim (fun h => absurd (XInv.reach hclo [25, 21] 28 17 (by kernel_rfl) h) (by rw [hlb]; decide)) id
   have hs2 : lb 73 = false := (Bool.eq_false_or_eq_true (lb 73)).elim (fun h => absurd (XInv.reach hclo [71, 67, 60, 55, 51, 44, 39, 35, 31, 29, 25, 21] 73 17 (by kernel_rfl) h) (by rw [hlb]; decide)) id
   rw [if_neg (by rw [hs2]; decide)] at hW
   rw [if_neg (by rw [hs1]; decide)] at hW
   rw [if_pos hs0] at hW
   have hB := hW.1
   clear hcl hneed hclo
   intro Q2 K2 hK2
   simp only [XInv.puts, XPrint.pw]
   go_simp
   exact hK2.out (.bool true) w' ⟨bq, rfl, fun _ _ _ => rfl, (by rw [if_neg (by simp [XInv.up, hs2])]; rw [if_neg (by simp [XInv.up, hs1])]; rw [if_pos (by simp [XInv.up, hs0])]; exact hW)⟩
  ·refine XInv.yes_tab [(94, 17)] (by kernel_rfl) ?_
   have hs0 := (XInv.reach hclo [13, 11] 17 10 (by kernel_rfl) (hneed 17 (by kernel_rfl)))
   have hs1 : lb 28 = false := (Bool.eq_false_or_eq_true (lb 28)).elim (fun h => absurd (XInv.reach hclo [25, 21, 20, 19] 28 18 (by kernel_rfl) h) (by rw [hlb]; decide)) id
   have hs2 : lb 73 = false := (Bool.eq_false_or_eq_true (lb 73)).elim (fun h => absurd (XInv.reach hclo [71, 67, 60, 55, 51, 44, 39, 35, 31, 29, 25, 21, 20, 19] 73 18 (by kernel_rfl) h) (by rw [hlb]; decide)) id
   rw [if_neg (by rw [hs2]; decide)] at hW
   rw [if_neg (by rw [hs1]; decide)] at hW
   rw [if_pos hs0] at hW
   have hB := hW.1
   clear hcl hneed hclo
   intro Q2 K2 hK2
   simp only [XInv.puts, XPrint.pw]
   go_simp
   exact hK2.out (.int .i64 1) w' ⟨bq, rfl, fun _ _ _ => rfl, (by rw [if_neg (by simp [XInv.up, hs2])]; rw [if_neg (by simp [XInv.up, hs1])]; rw [if_pos (by simp [XInv.up, hs0])]; exact hW)⟩
  ·refine XInv.yes_tab [(95, 18), (94, 17)] (by kernel_rfl) ?_
   have hs0 := (XInv.reach hclo [13, 11] 17 10 (by kernel_rfl) (hneed 17 (by kernel_rfl)))
   have hs1 : lb 28 = false := (Bool.eq_false_or_eq_true (lb 28)).elim (fun h => absurd (XInv.reach hclo [25, 21, 20] 28 19 (by kernel_rfl) h) (by rw [hlb]; decide)) id
   have hs2 : lb 73 = false := (Bool.eq_false_or_eq_true (lb 73)).elim (fun h => absurd (XInv.reach hclo [71, 67, 60, 55, 51, 44, 39, 35, 31, 29, 25, 21, 20] 73 19 (by kernel_rfl) h) (by rw [hlb]; decide)) id
   rw [if_neg (by rw [hs2]; decide)] at hW
   rw [if_neg (by rw [hs1]; decide)] at hW
   rw [if_pos hs0] at hW
   have hB := hW.1
   clear hcl hneed hclo
   intro Q2 K2 hK2
   simp only [XInv.puts, XPrint.pw]
   go_simp
   exact hK2.out (.bool true) w' ⟨bq, rfl, fun _ _ _ => rfl, (by rw [if_neg (by simp [XInv.up, hs2])]; rw [if_neg (by simp [XInv.up, hs1])]; rw [if_pos (by simp [XInv.up, hs0])]; exact hW)⟩
  ·refine XInv.yes_tab [(96, 19), (94, 17)] (by kernel_rfl) ?_
   have hs0 := (XInv.reach hclo [13, 11] 17 10 (by kernel_rfl) (hneed 17 (by kernel_rfl)))
   have hs1 : lb 28 = false := (Bool.eq_false_or_eq_true (lb 28)).elim (fun h => absurd (XInv.reach hclo [25, 21] 28 20 (by kernel_rfl) h) (by rw [hlb]; decide)) id
   have hs2 : lb 73 = false := (Bool.eq_false_or_eq_true (lb 73)).elim (fun h => absurd (XInv.reach hclo [71, 67, 60, 55, 51, 44, 39, 35, 31, 29, 25, 21] 73 20 (by kernel_rfl) h) (by rw [hlb]; decide)) id
   rw [if_neg (by rw [hs2]; decide)] at hW
   rw [if_neg (by rw [hs1]; decide)] at hW
   rw [if_pos hs0] at hW
   have hB := hW.1
   clear hcl hneed hclo
   intro Q2 K2 hK2
   simp only [XInv.puts, XPrint.pw]
   go_simp
   exact hK2.out (.bool true) w' ⟨bq, rfl, fun _ _ _ => rfl, (by rw [if_neg (by simp [XInv.up, hs2])]; rw [if_neg (by simp [XInv.up, hs1])]; rw [if_pos (by simp [XInv.up, hs0])]; exact hW)⟩
  ·refine XInv.yes_tab [(97, 20), (94, 17)] (by kernel_rfl) ?_
   have hs0 := (XInv.reach hclo [13, 11] 17 10 (by kernel_rfl) (hneed 17 (by kernel_rfl)))
   have hs1 : lb 28 = false := (Bool.eq_false_or_eq_true (lb 28)).elim (fun h => absurd (XInv.reach hclo [25] 28 21 (by kernel_rfl) h) (by rw [hlb]; decide)) id
   have hs2 : lb 73 = false := (Bool.eq_false_or_eq_true (lb 73)).elim (fun h => absurd (XInv.reach hclo [71, 67, 60, 55, 51, 44, 39, 35, 31, 29, 25] 73 21 (by kernel_rfl) h) (by rw [hlb]; decide)) id
   rw [if_neg (by rw [hs2]; decide)] at hW
   rw [if_neg (by rw [hs1]; decide)] at hW
   rw [if_pos hs0] at hW
   have hB := hW.1
   clear hcl hneed hclo
   intro Q2 K2 hK2
   simp only [XInv.puts, XPrint.pw]
   go_simp
   exact hK2.out (.bool true) w' ⟨bq, rfl, fun _ _ _ => rfl, (by rw [if_neg (by simp [XInv.up, hs2])]; rw [if_neg (by simp [XInv.up, hs1])]; rw [if_pos (by simp [XInv.up, hs0])]; exact hW)⟩
  ·refine XInv.yes_tab [(98, 21)] (by kernel_rfl) ?_
   have hs0 := (XInv.reach hclo [17, 13, 11] 21 10 (by kernel_rfl) (hneed 21 (by kernel_rfl)))
   have hs1 : lb 28 = false := (Bool.eq_false_or_eq_true (lb 28)).elim (fun h => absurd (XInv.reach hclo [25, 24, 23] 28 22 (by kernel_rfl) h) (by rw [hlb]; decide)) id
   have hs2 : lb 73 = false := (Bool.eq_false_or_eq_true (lb 73)).elim (fun h => absurd (XInv.reach hclo [71, 67, 60, 55, 51, 44, 39, 35, 31, 29, 25, 24, 23] 73 22 (by kernel_rfl) h) (by rw [hlb]; decide)) id
   rw [if_neg (by rw [hs2]; decide)] at hW
   rw [if_neg (by rw [hs1]; decide)] at hW
   rw [if_pos hs0] at hW
   have hB := hW.1
   clear hcl hneed hclo
   intro Q2 K2 hK2
   simp only [XInv.puts, XPrint.pw]
   go_simp
   exact hK2.out (.int .i64 6) w' ⟨bq, rfl, fun _ _ _ => rfl, (by rw [if_neg (by simp [XInv.up, hs2])]; rw [if_neg (by simp [XInv.up, hs1])]; rw [if_pos (by simp [XInv.up, hs0])]; exact hW)⟩
  ·refine XInv.yes_tab [(99, 22), (98, 21)] (by kernel_rfl) ?_
   have hs0 := (XInv.reach hclo [17, 13, 11] 21 10 (by kernel_rfl) (hneed 21 (by kernel_rfl)))
   have hs1 : lb 28 = false := (Bool.eq_false_or_eq_true (lb 28)).elim (fun h => absurd (XInv.reach hclo [25, 24] 28 23 (by kernel_rfl) h) (by rw [hlb]; decide)) id
   have hs2 : lb 73 = false := (Bool.eq_false_or_eq_true (lb 73)).elim (fun h => absurd (XInv.reach hclo [71, 67, 60, 55, 51, 44, 39, 35, 31, 29, 25, 24] 73 23 (by kernel_rfl) h) (by rw [hlb]; decide)) id
   rw [if_neg (by rw [hs2]; decide)] at hW
   rw [if_neg (by rw [hs1]; decide)] at hW
   rw [if_pos hs0] at hW
   have hB := hW.1
   clear hcl hneed hclo
   intro Q2 K2 hK2
   simp only [XInv.puts, XPrint.pw]
   go_simp
   exact hK2.out (.bool true) w' ⟨bq, rfl, fun _ _ _ => rfl, (by rw [if_neg (by simp [XInv.up, hs2])]; rw [if_neg (by simp [XInv.up, hs1])]; rw [if_pos (by simp [XInv.up, hs0])]; exact hW)⟩
  ·refine XInv.yes_tab [(100, 23), (98, 21)] (by kernel_rfl) ?_
   have hs0 := (XInv.reach hclo [17, 13, 11] 21 10 (by kernel_rfl) (hneed 21 (by kernel_rfl)))
   have hs1 : lb 28 = false := (Bool.eq_false_or_eq_true (lb 28)).elim (fun h => absurd (XInv.reach hclo [25] 28 24 (by kernel_rfl) h) (by rw [hlb]; decide)) id
   have hs2 : lb 73 = false := (Bool.eq_false_or_eq_true (lb 73)).elim (fun h => absurd (XInv.reach hclo [71, 67, 60, 55, 51, 44, 39, 35, 31, 29, 25] 73 24 (by kernel_rfl) h) (by rw [hlb]; decide)) id
   rw [if_neg (by rw [hs2]; decide)] at hW
   rw [if_neg (by rw [hs1]; decide)] at hW
   rw [if_pos hs0] at hW
   have hB := hW.1
   clear hcl hneed hclo
   intro Q2 K2 hK2
   simp only [XInv.puts, XPrint.pw]
   go_simp
   exact hK2.out (.bool true) w' ⟨bq, rfl, fun _ _ _ => rfl, (by rw [if_neg (by simp [XInv.up, hs2])]; rw [if_neg (by simp [XInv.up, hs1])]; rw [if_pos (by simp [XInv.up, hs0])]; exact hW)⟩
  ·refine XInv.yes_tab [(101, 24), (98, 21)] (by kernel_rfl) ?_
   have hs0 := (XInv.reach hclo [17, 13, 11] 21 10 (by kernel_rfl) (hneed 21 (by kernel_rfl)))
   have hs1 := hcl 28 (by decide) (by kernel_rfl)
   have hs2 : lb 73 = false := (Bool.eq_false_or_eq_true (lb 73)).elim (fun h => absurd (XInv.reach hclo [71, 67, 60, 55, 51, 44, 39, 35, 31, 29] 73 25 (by kernel_rfl) h) (by rw [hlb]; decide)) id
   rw [if_neg (by rw [hs2]; decide)] at hW
   rw [if_neg (by rw [hs1]; decide)] at hW
   rw [if_pos hs0] at hW
   have hB := hW.1
   clear hcl hneed hclo
   intro Q2 K2 hK2
   simp only [XInv.puts, XPrint.pw]
   go_simp
   exact hK2.out (.bool true) w' ⟨bq, rfl, fun _ _ _ => rfl, (by rw [if_neg (by simp [XInv.up, hs2])]; rw [if_neg (by simp [XInv.up, hs1])]; rw [if_pos (by simp [XInv.up, hs0])]; exact hW)⟩
  ·refine XInv.yes_tab [(102, 25)] (by kernel_rfl) ?_
   have hs0 := (XInv.reach hclo [21, 17, 13, 11] 25 10 (by kernel_rfl) (hneed 25 (by kernel_rfl)))
   have hs2 : lb 73 = false := (Bool.eq_false_or_eq_true (lb 73)).elim (fun h => absurd (XInv.reach hclo [71, 67, 60, 55, 51, 44, 39, 35, 31, 29] 73 26 (by kernel_rfl) h) (by rw [hlb]; decide)) id
   cases hs1 : lb 28
   case false =>
    rw [if_neg (by rw [hs2]; decide)] at hW
    rw [if_neg (by rw [hs1]; decide)] at hW
    rw [if_pos hs0] at hW
    have hB := hW.1
    clear hcl hneed hclo
    intro Q2 K2 hK2
    simp only [XInv.puts, XPrint.pw]
    go_simp
    exact hK2.out (.slice A3 1 c3) w' ⟨bq, rfl, fun _ _ _ => rfl, (by rw [if_neg (by simp [XInv.up, hs2])]; rw [if_neg (by simp [XInv.up, hs1])]; rw [if_pos (by simp [XInv.up, hs0])]; exact hW)⟩
   case true =>
    rw [if_neg (by rw [hs2]; decide)] at hW
    rw [if_pos hs1] at hW
    have hB := hW.1
    clear hcl hneed hclo
    intro Q2 K2 hK2
    simp only [XInv.puts, XPrint.pw]
    go_simp
    exact hK2.out (.slice A3 1 c3) w' ⟨bq, rfl, fun _ _ _ => rfl, (by rw [if_neg (by simp [XInv.up, hs2])]; rw [if_pos (by simp [XInv.up, hs1])]; exact hW)⟩
  ·refine XInv.yes_tab [(102, 25)] (by kernel_rfl) ?_
   have hs0 := (XInv.reach hclo [21, 17, 13, 11] 25 10 (by kernel_rfl) (hneed 25 (by kernel_rfl)))
   have hs1 := hcl 28 (by decide) (by kernel_rfl)
   have hs2 : lb 73 = false := (Bool.eq_false_or_eq_true (lb 73)).elim (fun h => absurd (XInv.reach hclo [71, 67, 60, 55, 51, 44, 39, 35, 31, 29, 28] 73 27 (by kernel_rfl) h) (by rw [hlb]; decide)) id
   rw [if_neg (by rw [hs2]; decide)] at hW
   rw [if_neg (by rw [hs1]; decide)] at hW
   rw [if_pos hs0] at hW
   have hB := hW.1
   clear hcl hneed hclo
   intro Q2 K2 hK2
   simp only [XInv.puts, XPrint.pw]
   go_simp
   exact hK2.out (.agg #[.int .u32 3, .int .u32 5, .int .u32 8, .bool true]) w' ⟨bq, rfl, fun _ _ _ => rfl, (by rw [if_neg (by simp [XInv.up, hs2])]; rw [if_neg (by simp [XInv.up, hs1])]; rw [if_pos (by simp [XInv.up, hs0])]; exact hW)⟩
  ·refine XInv.yes_tab [(104, 27), (102, 25)] (by kernel_rfl) ?_
   have hs0 := (XInv.reach hclo [21, 17, 13, 11] 25 10 (by kernel_rfl) (hneed 25 (by kernel_rfl)))
   have hs1 := hlb
   have hs2 : lb 73 = false := (Bool.eq_false_or_eq_true (lb 73)).elim (fun h => absurd (XInv.reach hclo [71, 67, 60, 55, 51, 44, 39, 35, 31, 29] 73 28 (by kernel_rfl) h) (by rw [hlb]; decide)) id
   rw [if_neg (by rw [hs2]; decide)] at hW
   rw [if_neg (by rw [hs1]; decide)] at hW
   rw [if_pos hs0] at hW
   have hB := hW.1
   clear hcl hneed
   intro Q2 K2 hK2
   simp only [XInv.puts, XPrint.pw]
   go_simp
   exact hK2.out (.slice (some ⟨w'.heap.size, 0, none⟩) 1 1) _ ⟨(bq.1, w'.heap.size, bq.2.2), rfl, (cs87 _ (fun _ => rfl) (fun _ => rfl) (fun _ => rfl) (fun _ => rfl) (fun _ => rfl) (fun _ => rfl) (fun _ => rfl) (fun _ => rfl) (fun _ => rfl) (fun _ => rfl) (fun _ => rfl) (fun _ => rfl) (fun _ => rfl) (fun _ => rfl) (fun _ => rfl) (fun _ => rfl) (fun _ => rfl) (fun _ => rfl) (fun _ => rfl) (fun _ => rfl) (fun _ => rfl) (fun _ => rfl) (fun _ => rfl) (fun _ => rfl) (fun _ => rfl) (fun _ => rfl) (fun _ => rfl) (fun _ => rfl) (fun hlj => absurd (hlb.symm.trans hlj) (by decide)) (fun _ => rfl) (fun _ => rfl) (fun _ => rfl) (fun _ => rfl) (fun _ => rfl) (fun _ => rfl) (fun _ => rfl) (fun _ => rfl) (fun _ => rfl) (fun _ => rfl) (fun _ => rfl) (fun _ => rfl) (fun _ => rfl) (fun _ => rfl) (fun _ => rfl) (fun _ => rfl) (fun _ => rfl) (fun _ => rfl) (fun _ => rfl) (fun _ => rfl) (fun _ => rfl) (fun _ => rfl) (fun _ => rfl) (fun _ => rfl) (fun _ => rfl) (fun _ => rfl) (fun _ => rfl) (fun _ => rfl) (fun _ => rfl) (fun _ => rfl) (fun _ => rfl) (fun _ => rfl) (fun _ => rfl) (fun _ => rfl) (fun _ => rfl) (fun _ => rfl) (fun _ => rfl) (fun _ => rfl) (fun _ => rfl) (fun _ => rfl) (fun _ => rfl) (fun _ => rfl) (fun _ => rfl) (fun _ => rfl) (fun _ => rfl) (fun _ => rfl) (fun _ => rfl) (fun _ => rfl) (fun _ => rfl) (fun _ => rfl) (fun _ => rfl) (fun _ => rfl) (fun _ => rfl) (fun _ => rfl) (fun _ => rfl) (fun _ => rfl) (fun _ => rfl) (fun _ => rfl)), (by rw [if_neg (by simp [XInv.up, hs2])]; rw [if_pos (by simp [XInv.up, hs1])]; exact ⟨below_alloc hB _, lit1 w' b3⟩)⟩
  ·refine XInv.yes_tab [(105, 28), (103, 26), (102, 25)] (by kernel_rfl) ?_
   have hs0 := (XInv.reach hclo [21, 17, 13, 11] 25 10 (by kernel_rfl) (hneed 25 (by kernel_rfl)))
   have hs1 := hneed 28 (by kernel_rfl)
   have hs2 : lb 73 = false := (Bool.eq_false_or_eq_true (lb 73)).elim (fun h => absurd (XInv.reach hclo [71, 67, 60, 55, 51, 44, 39, 35, 31] 73 29 (by kernel_rfl) h) (by rw [hlb]; decide)) id
   rw [if_neg (by rw [hs2]; decide)] at hW
   rw [if_pos hs1] at hW
   have hB := hW.1
   clear hcl hneed
   intro Q2 K2 hK2
   simp only [XInv.puts, XPrint.pw]
   go_simp
   go_at_call 29
   (with_reducible refine (dsame [b3] _ _ 1 _ _ _ (Kd.C_below (Kd.R_reads' DR.out).2.2 hB) hW.2 rfl (by decide)).mono ?_)
   rintro e wz ⟨rfl, hb⟩
   exact hK2.out (.bool true) wz ⟨bq, rfl, fun _ _ _ => rfl, (by rw [if_neg (by simp [XInv.up, hs2])]; rw [if_pos (by simp [XInv.up, hs1])]; exact ⟨below_step hB hb, Kd.C_below hW.2 hb⟩)⟩
  ·refine XInv.yes_tab [(106, 29), (102, 25)] (by kernel_rfl) ?_
   have hs0 := (XInv.reach hclo [21, 17, 13, 11] 25 10 (by kernel_rfl) (hneed 25 (by kernel_rfl)))
   have hs1 := (XInv.reach hclo [] 29 28 (by kernel_rfl) (hneed 29 (by kernel_rfl)))
   have hs2 : lb 73 = false := (Bool.eq_false_or_eq_true (lb 73)).elim (fun h => absurd (XInv.reach hclo [71, 67, 60, 55, 51, 44, 39, 35, 31] 73 30 (by kernel_rfl) h) (by rw [hlb]; decide)) id
   rw [if_neg (by rw [hs2]; decide)] at hW
   rw [if_pos hs1] at hW
   have hB := hW.1
   clear hcl hneed hclo
   intro Q2 K2 hK2
   simp only [XInv.puts, XPrint.pw]
   go_simp
   exact hK2.out (.bool true) w' ⟨bq, rfl, fun _ _ _ => rfl, (by rw [if_neg (by simp [XInv.up, hs2])]; rw [if_pos (by simp [XInv.up, hs1])]; exact hW)⟩
  ·refine XInv.yes_tab [(107, 30), (106, 29)] (by kernel_rfl) ?_
   have hs0 := (XInv.reach hclo [25, 21, 17, 13, 11] 29 10 (by kernel_rfl) (hneed 29 (by kernel_rfl)))
   have hs1 := (XInv.reach hclo [] 29 28 (by kernel_rfl) (hneed 29 (by kernel_rfl)))
   have hs2 : lb 73 = false := (Bool.eq_false_or_eq_true (lb 73)).elim (fun h => absurd (XInv.reach hclo [71, 67, 60, 55, 51, 44, 39, 35] 73 31 (by kernel_rfl) h) (by rw [hlb]; decide)) id
   rw [if_neg (by rw [hs2]; decide)] at hW
   rw [if_pos hs1] at hW
   have hB := hW.1
   clear hcl hneed hclo
   intro Q2 K2 hK2
   simp only [XInv.puts, XPrint.pw]
   go_simp
   exact hK2.out (.bool true) w' ⟨bq, rfl, fun _ _ _ => rfl, (by rw [if_neg (by simp [XInv.up, hs2])]; rw [if_pos (by simp [XInv.up, hs1])]; exact hW)⟩
  ·refine XInv.yes_tab [(108, 31)] (by kernel_rfl) ?_
   have hs0 := (XInv.reach hclo [29, 25, 21, 17, 13, 11] 31 10 (by kernel_rfl) (hneed 31 (by kernel_rfl)))
   have hs1 := (XInv.reach hclo [29] 31 28 (by kernel_rfl) (hneed 31 (by kernel_rfl)))
   have hs2 : lb 73 = false := (Bool.eq_false_or_eq_true (lb 73)).elim (fun h => absurd (XInv.reach hclo [71, 67, 60, 55, 51, 44, 39, 35, 34, 33] 73 32 (by kernel_rfl) h) (by rw [hlb]; decide)) id
   rw [if_neg (by rw [hs2]; decide)] at hW
   rw [if_pos hs1] at hW
   have hB := hW.1
   clear hcl hneed hclo
   intro Q2 K2 hK2
   simp only [XInv.puts, XPrint.pw]
   go_simp
   exact hK2.out (.int .i64 0) w' ⟨bq, rfl, fun _ _ _ => rfl, (by rw [if_neg (by simp [XInv.up, hs2])]; rw [if_pos (by simp [XInv.up, hs1])]; exact hW)⟩
  ·refine XInv.yes_tab [(109, 32), (108, 31)] (by kernel_rfl) ?_
   have hs0 := (XInv.reach hclo [29, 25, 21, 17, 13, 11] 31 10 (by kernel_rfl) (hneed 31 (by kernel_rfl)))
   have hs1 := (XInv.reach hclo [29] 31 28 (by kernel_rfl) (hneed 31 (by kernel_rfl)))
   have hs2 : lb 73 = false := (Bool.eq_false_or_eq_true (lb 73)).elim (fun h => absurd (XInv.reach hclo [71, 67, 60, 55, 51, 44, 39, 35, 34] 73 33 (by kernel_rfl) h) (by rw [hlb]; decide)) id
   rw [if_neg (by rw [hs2]; decide)] at hW
   rw [if_pos hs1] at hW
   have hB := hW.1
   clear hcl hneed hclo
   intro Q2 K2 hK2
   simp only [XInv.puts, XPrint.pw]
   go_simp
   exact hK2.out (.bool true) w' ⟨bq, rfl, fun _ _ _ => rfl, (by rw [if_neg (by simp [XInv.up, hs2])]; rw [if_pos (by simp [XInv.up, hs1])]; exact hW)⟩
  ·refine XInv.yes_tab [(110, 33), (108, 31)] (by kernel_rfl) ?_
   have hs0 := (XInv.reach hclo [29, 25, 21, 17, 13, 11] 31 10 (by kernel_rfl) (hneed 31 (by kernel_rfl)))
   have hs1 := (XInv.reach hclo [29] 31 28 (by kernel_rfl) (hneed 31 (by kernel_rfl)))
   have hs2 : lb 73 = false := (Bool.eq_false_or_eq_true (lb 73)).elim (fun h => absurd (XInv.reach hclo [71, 67, 60, 55, 51, 44, 39, 35] 73 34 (by kernel_rfl) h) (by rw [hlb]; decide)) id
   rw [if_neg (by rw [hs2]; decide)] at hW
   rw [if_pos hs1] at hW
   have hB := hW.1
   clear hcl hneed hclo
   intro Q2 K2 hK2
   simp only [XInv.puts, XPrint.pw]
   go_simp
   exact hK2.out (.bool true) w' ⟨bq, rfl, fun _ _ _ => rfl, (by rw [if_neg (by simp [XInv.up, hs2])]; rw [if_pos (by simp [XInv.up, hs1])]; exact hW)⟩
  ·refine XInv.yes_tab [(111, 34), (108, 31)] (by kernel_rfl) ?_
   have hs0 := (XInv.reach hclo [29, 25, 21, 17, 13, 11] 31 10 (by kernel_rfl) (hneed 31 (by kernel_rfl)))
   have hs1 := (XInv.reach hclo [29] 31 28 (by kernel_rfl) (hneed 31 (by kernel_rfl)))
   have hs2 : lb 73 = false := (Bool.eq_false_or_eq_true (lb 73)).elim (fun h => absurd (XInv.reach hclo [71, 67, 60, 55, 51, 44, 39] 73 35 (by kernel_rfl) h) (by rw [hlb]; decide)) id
   rw [if_neg (by rw [hs2]; decide)] at hW
   rw [if_pos hs1] at hW
   have hB := hW.1
   clear hcl hneed hclo
   intro Q2 K2 hK2
   simp only [XInv.puts, XPrint.pw]
   go_simp
   exact hK2.out (.bool true) w' ⟨bq, rfl, fun _ _ _ => rfl, (by rw [if_neg (by simp [XInv.up, hs2])]; rw [if_pos (by simp [XInv.up, hs1])]; exact hW)⟩
  ·refine XInv.yes_tab [(112, 35)] (by kernel_rfl) ?_
   have hs0 := (XInv.reach hclo [31, 29, 25, 21, 17, 13, 11] 35 10 (by kernel_rfl) (hneed 35 (by kernel_rfl)))
   have hs1 := (XInv.reach hclo [31, 29] 35 28 (by kernel_rfl) (hneed 35 (by kernel_rfl)))
   have hs2 : lb 73 = false := (Bool.eq_false_or_eq_true (lb 73)).elim (fun h => absurd (XInv.reach hclo [71, 67, 60, 55, 51, 44, 39, 38, 37] 73 36 (by kernel_rfl) h) (by rw [hlb]; decide)) id
   rw [if_neg (by rw [hs2]; decide)] at hW
   rw [if_pos hs1] at hW
   have hB := hW.1
   clear hcl hneed hclo
   intro Q2 K2 hK2
   simp only [XInv.puts, XPrint.pw]
   go_simp
   exact hK2.out (.int .i64 0) w' ⟨bq, rfl, fun _ _ _ => rfl, (by rw [if_neg (by simp [XInv.up, hs2])]; rw [if_pos (by simp [XInv.up, hs1])]; exact hW)⟩
  ·refine XInv.yes_tab [(113, 36), (112, 35)] (by kernel_rfl) ?_
   have hs0 := (XInv.reach hclo [31, 29, 25, 21, 17, 13, 11] 35 10 (by kernel_rfl) (hneed 35 (by kernel_rfl)))
   have hs1 := (XInv.reach hclo [31, 29] 35 28 (by kernel_rfl) (hneed 35 (by kernel_rfl)))
   have hs2 : lb 73 = false := (Bool.eq_false_or_eq_true (lb 73)).elim (fun h => absurd (XInv.reach hclo [71, 67, 60, 55, 51, 44, 39, 38] 73 37 (by kernel_rfl) h) (by rw [hlb]; decide)) id
   rw [if_neg (by rw [hs2]; decide)] at hW
   rw [if_pos hs1] at hW
   have hB := hW.1
   clear hcl hneed hclo
   intro Q2 K2 hK2
   simp only [XInv.puts, XPrint.pw]
   go_simp
   exact hK2.out (.bool true) w' ⟨bq, rfl, fun _ _ _ => rfl, (by rw [if_neg (by simp [XInv.up, hs2])]; rw [if_pos (by simp [XInv.up, hs1])]; exact hW)⟩
  ·refine XInv.yes_tab [(114, 37), (112, 35)] (by kernel_rfl) ?_
   have hs0 := (XInv.reach hclo [31, 29, 25, 21, 17, 13, 11] 35 10 (by kernel_rfl) (hneed 35 (by kernel_rfl)))
   have hs1 := (XInv.reach hclo [31, 29] 35 28 (by kernel_rfl) (hneed 35 (by kernel_rfl)))
   have hs2 : lb 73 = false := (Bool.eq_false_or_eq_true (lb 73)).elim (fun h => absurd (XInv.reach hclo [71, 67, 60, 55, 51, 44, 39] 73 38 (by kernel_rfl) h) (by rw [hlb]; decide)) id
   rw [if_neg (by rw [hs2]; decide)] at hW
   rw [if_pos hs1] at hW
   have hB := hW.1
   clear hcl hneed hclo
   intro Q2 K2 hK2
   simp only [XInv.puts, XPrint.pw]
   go_simp
   exact hK2.out (.bool true) w' ⟨bq, rfl, fun _ _ _ => rfl, (by rw [if_neg (by simp [XInv.up, hs2])]; rw [if_pos (by simp [XInv.up, hs1])]; exact hW)⟩
  ·refine XInv.yes_tab [(115, 38), (112, 35)] (by kernel_rfl) ?_
   have hs0 := (XInv.reach hclo [31, 29, 25, 21, 17, 13, 11] 35 10 (by kernel_rfl) (hneed 35 (by kernel_rfl)))
   have hs1 := (XInv.reach hclo [31, 29] 35 28 (by kernel_rfl) (hneed 35 (by kernel_rfl)))
   have hs2 : lb 73 = false := (Bool.eq_false_or_eq_true (lb 73)).elim (fun h => absurd (XInv.reach hclo [71, 67, 60, 55, 51, 44] 73 39 (by kernel_rfl) h) (by rw [hlb]; decide)) id
   rw [if_neg (by rw [hs2]; decide)] at hW
   rw [if_pos hs1] at hW
   have hB := hW.1
   clear hcl hneed hclo
   intro Q2 K2 hK2
   simp only [XInv.puts, XPrint.pw]
   go_simp
   exact hK2.out (.bool true) w' ⟨bq, rfl, fun _ _ _ => rfl, (by rw [if_neg (by simp [XInv.up, hs2])]; rw [if_pos (by simp [XInv.up, hs1])]; exact hW)⟩
  ·refine XInv.yes_tab [(116, 39)] (by kernel_rfl) ?_
   have hs0 := (XInv.reach hclo [35, 31, 29, 25, 21, 17, 13, 11] 39 10 (by kernel_rfl) (hneed 39 (by kernel_rfl)))
   have hs1 := (XInv.reach hclo [35, 31, 29] 39 28 (by kernel_rfl) (hneed 39 (by kernel_rfl)))
   have hs2 : lb 73 = false := (Bool.eq_false_or_eq_true (lb 73)).elim (fun h => absurd (XInv.reach hclo [71, 67, 60, 55, 51, 44, 43, 42, 41] 73 40 (by kernel_rfl) h) (by rw [hlb]; decide)) id
   rw [if_neg (by rw [hs2]; decide)] at hW
   rw [if_pos hs1] at hW
   have hB := hW.1
   clear hcl hneed hclo
   intro Q2 K2 hK2
   simp only [XInv.puts, XPrint.pw]
   go_simp
   exact hK2.out (.slice (some a4) 1 c4) w' ⟨bq, rfl, fun _ _ _ => rfl, (by rw [if_neg (by simp [XInv.up, hs2])]; rw [if_pos (by simp [XInv.up, hs1])]; exact hW)⟩
  ·refine XInv.yes_tab [(117, 40), (116, 39)] (by kernel_rfl) ?_
   have hs0 := (XInv.reach hclo [35, 31, 29, 25, 21, 17, 13, 11] 39 10 (by kernel_rfl) (hneed 39 (by kernel_rfl)))
   have hs1 := (XInv.reach hclo [35, 31, 29] 39 28 (by kernel_rfl) (hneed 39 (by kernel_rfl)))
   have hs2 : lb 73 = false := (Bool.eq_false_or_eq_true (lb 73)).elim (fun h => absurd (XInv.reach hclo [71, 67, 60, 55, 51, 44, 43, 42] 73 41 (by kernel_rfl) h) (by rw [hlb]; decide)) id
   rw [if_neg (by rw [hs2]; decide)] at hW
   rw [if_pos hs1] at hW
   have hB := hW.1
   clear hcl hneed hclo
   intro Q2 K2 hK2
   simp only [XInv.puts, XPrint.pw]
   go_simp
   exact hK2.out (.int .i64 1) w' ⟨bq, rfl, fun _ _ _ => rfl, (by rw [if_neg (by simp [XInv.up, hs2])]; rw [if_pos (by simp [XInv.up, hs1])]; exact hW)⟩
  ·refine XInv.yes_tab [(118, 41), (116, 39)] (by kernel_rfl) ?_
   have hs0 := (XInv.reach hclo [35, 31, 29, 25, 21, 17, 13, 11] 39 10 (by kernel_rfl) (hneed 39 (by kernel_rfl)))
   have hs1 := (XInv.reach hclo [35, 31, 29] 39 28 (by kernel_rfl) (hneed 39 (by kernel_rfl)))
   have hs2 : lb 73 = false := (Bool.eq_false_or_eq_true (lb 73)).elim (fun h => absurd (XInv.reach hclo [71, 67, 60, 55, 51, 44, 43] 73 42 (by kernel_rfl) h) (by rw [hlb]; decide)) id
   rw [if_neg (by rw [hs2]; decide)] at hW
   rw [if_pos hs1] at hW
   have hB := hW.1
   clear hcl hneed hclo
   intro Q2 K2 hK2
   simp only [XInv.puts, XPrint.pw]
   go_simp
   exact hK2.out (.bool true) w' ⟨bq, rfl, fun _ _ _ => rfl, (by rw [if_neg (by simp [XInv.up, hs2])]; rw [if_pos (by simp [XInv.up, hs1])]; exact hW)⟩
  ·refine XInv.yes_tab [(119, 42), (116, 39)] (by kernel_rfl) ?_
   have hs0 := (XInv.reach hclo [35, 31, 29, 25, 21, 17, 13, 11] 39 10 (by kernel_rfl) (hneed 39 (by kernel_rfl)))
   have hs1 := (XInv.reach hclo [35, 31, 29] 39 28 (by kernel_rfl) (hneed 39 (by kernel_rfl)))
   have hs2 : lb 73 = false := (Bool.eq_false_or_eq_true (lb 73)).elim (fun h => absurd (XInv.reach hclo [71, 67, 60, 55, 51, 44] 73 43 (by kernel_rfl) h) (by rw [hlb]; decide)) id
   rw [if_neg (by rw [hs2]; decide)] at hW
   rw [if_pos hs1] at hW
   have hB := hW.1
   clear hcl hneed hclo
   intro Q2 K2 hK2
   simp only [XInv.puts, XPrint.pw]
   go_simp
   exact hK2.out (.bool true) w' ⟨bq, rfl, fun _ _ _ => rfl, (by rw [if_neg (by simp [XInv.up, hs2])]; rw [if_pos (by simp [XInv.up, hs1])]; exact hW)⟩
  ·refine XInv.yes_tab [(120, 43), (116, 39)] (by kernel_rfl) ?_
   have hs0 := (XInv.reach hclo [35, 31, 29, 25, 21, 17, 13, 11] 39 10 (by kernel_rfl) (hneed 39 (by kernel_rfl)))
   have hs1 := (XInv.reach hclo [35, 31, 29] 39 28 (by kernel_rfl) (hneed 39 (by kernel_rfl)))
   have hs2 : lb 73 = false := (Bool.eq_false_or_eq_true (lb 73)).elim (fun h => absurd (XInv.reach hclo [71, 67, 60, 55, 51] 73 44 (by kernel_rfl) h) (by rw [hlb]; decide)) id
   rw [if_neg (by rw [hs2]; decide)] at hW
   rw [if_pos hs1] at hW
   have hB := hW.1
   clear hcl hneed hclo
   intro Q2 K2 hK2
   simp only [XInv.puts, XPrint.pw]
   go_simp
   exact hK2.out (.bool true) w' ⟨bq, rfl, fun _ _ _ => rfl, (by rw [if_neg (by simp [XInv.up, hs2])]; rw [if_pos (by simp [XInv.up, hs1])]; exact hW)⟩
  ·refine XInv.yes_tab [(121, 44)] (by kernel_rfl) ?_
   have hs0 := (XInv.reach hclo [39, 35, 31, 29, 25, 21, 17, 13, 11] 44 10 (by kernel_rfl) (hneed 44 (by kernel_rfl)))
   have hs1 := (XInv.reach hclo [39, 35, 31, 29] 44 28 (by kernel_rfl) (hneed 44 (by kernel_rfl)))
   have hs2 : lb 73 = false := (Bool.eq_false_or_eq_true (lb 73)).elim (fun h => absurd (XInv.reach hclo [71, 67, 60, 55, 51, 50, 49, 48, 47, 46] 73 45 (by kernel_rfl) h) (by rw [hlb]; decide)) id
   rw [if_neg (by rw [hs2]; decide)] at hW
   rw [if_pos hs1] at hW
   have hB := hW.1
   clear hcl hneed hclo
   intro Q2 K2 hK2
   simp only [XInv.puts, XPrint.pw]
   go_simp
   exact hK2.out (.slice (some a4) 1 c4) w' ⟨bq, rfl, fun _ _ _ => rfl, (by rw [if_neg (by simp [XInv.up, hs2])]; rw [if_pos (by simp [XInv.up, hs1])]; exact hW)⟩
  ·refine XInv.yes_tab [(122, 45), (121, 44)] (by kernel_rfl) ?_
   have hs0 := (XInv.reach hclo [39, 35, 31, 29, 25, 21, 17, 13, 11] 44 10 (by kernel_rfl) (hneed 44 (by kernel_rfl)))
   have hs1 := (XInv.reach hclo [39, 35, 31, 29] 44 28 (by kernel_rfl) (hneed 44 (by kernel_rfl)))
   have hs2 : lb 73 = false := (Bool.eq_false_or_eq_true (lb 73)).elim (fun h => absurd (XInv.reach hclo [71, 67, 60, 55, 51, 50, 49, 48, 47] 73 46 (by kernel_rfl) h) (by rw [hlb]; decide)) id
   rw [if_neg (by rw [hs2]; decide)] at hW
   rw [if_pos hs1] at hW
   have hB := hW.1
   clear hcl hneed hclo
   intro Q2 K2 hK2
   simp only [XInv.puts, XPrint.pw]
   go_simp
   exact hK2.out (.pointer (some a4)) w' ⟨bq, rfl, fun _ _ _ => rfl, (by rw [if_neg (by simp [XInv.up, hs2])]; rw [if_pos (by simp [XInv.up, hs1])]; exact hW)⟩
  ·refine XInv.yes_tab [(123, 46), (121, 44)] (by kernel_rfl) ?_
   have hs0 := (XInv.reach hclo [39, 35, 31, 29, 25, 21, 17, 13, 11] 44 10 (by kernel_rfl) (hneed 44 (by kernel_rfl)))
   have hs1 := (XInv.reach hclo [39, 35, 31, 29] 44 28 (by kernel_rfl) (hneed 44 (by kernel_rfl)))
   have hs2 : lb 73 = false := (Bool.eq_false_or_eq_true (lb 73)).elim (fun h => absurd (XInv.reach hclo [71, 67, 60, 55, 51, 50, 49, 48] 73 47 (by kernel_rfl) h) (by rw [hlb]; decide)) id
   rw [if_neg (by rw [hs2]; decide)] at hW
   rw [if_pos hs1] at hW
   have hB := hW.1
   clear hcl hneed hclo
   intro Q2 K2 hK2
   simp only [XInv.puts, XPrint.pw]
   go_simp
   exact hK2.out (.pointer (some a4)) w' ⟨bq, rfl, fun _ _ _ => rfl, (by rw [if_neg (by simp [XInv.up, hs2])]; rw [if_pos (by simp [XInv.up, hs1])]; exact hW)⟩
  ·refine XInv.yes_tab [(124, 47), (121, 44)] (by kernel_rfl) ?_
   have hs0 := (XInv.reach hclo [39, 35, 31, 29, 25, 21, 17, 13, 11] 44 10 (by kernel_rfl) (hneed 44 (by kernel_rfl)))
   have hs1 := (XInv.reach hclo [39, 35, 31, 29] 44 28 (by kernel_rfl) (hneed 44 (by kernel_rfl)))
   have hs2 : lb 73 = false := (Bool.eq_false_or_eq_true (lb 73)).elim (fun h => absurd (XInv.reach hclo [71, 67, 60, 55, 51, 50, 49] 73 48 (by kernel_rfl) h) (by rw [hlb]; decide)) id
   rw [if_neg (by rw [hs2]; decide)] at hW
   rw [if_pos hs1] at hW
   have hB := hW.1
   clear hcl hneed
   intro Q2 K2 hK2
   simp only [XInv.puts, XPrint.pw]
   have i0 := pw_cell_below hB IJ.out.1
   have j0 := pw_cell_below hB IJ.out.2
   go_simp
   exact hK2.out (.int .u32 2) w' ⟨bq, rfl, fun _ _ _ => rfl, (by rw [if_neg (by simp [XInv.up, hs2])]; rw [if_pos (by simp [XInv.up, hs1])]; exact hW)⟩
  ·refine XInv.yes_tab [(125, 48), (121, 44)] (by kernel_rfl) ?_
   have hs0 := (XInv.reach hclo [39, 35, 31, 29, 25, 21, 17, 13, 11] 44 10 (by kernel_rfl) (hneed 44 (by kernel_rfl)))
   have hs1 := (XInv.reach hclo [39, 35, 31, 29] 44 28 (by kernel_rfl) (hneed 44 (by kernel_rfl)))
   have hs2 : lb 73 = false := (Bool.eq_false_or_eq_true (lb 73)).elim (fun h => absurd (XInv.reach hclo [71, 67, 60, 55, 51, 50] 73 49 (by kernel_rfl) h) (by rw [hlb]; decide)) id
   rw [if_neg (by rw [hs2]; decide)] at hW
   rw [if_pos hs1] at hW
   have hB := hW.1
   clear hcl hneed hclo
   intro Q2 K2 hK2
   simp only [XInv.puts, XPrint.pw]
   go_simp
   exact hK2.out (.bool true) w' ⟨bq, rfl, fun _ _ _ => rfl, (by rw [if_neg (by simp [XInv.up, hs2])]; rw [if_pos (by simp [XInv.up, hs1])]; exact hW)⟩
  ·refine XInv.yes_tab [(126, 49), (121, 44)] (by kernel_rfl) ?_
   have hs0 := (XInv.reach hclo [39, 35, 31, 29, 25, 21, 17, 13, 11] 44 10 (by kernel_rfl) (hneed 44 (by kernel_rfl)))
   have hs1 := (XInv.reach hclo [39, 35, 31, 29] 44 28 (by kernel_rfl) (hneed 44 (by kernel_rfl)))
   have hs2 : lb 73 = false := (Bool.eq_false_or_eq_true (lb 73)).elim (fun h => absurd (XInv.reach hclo [71, 67, 60, 55, 51] 73 50 (by kernel_rfl) h) (by rw [hlb]; decide)) id
   rw [if_neg (by rw [hs2]; decide)] at hW
   rw [if_pos hs1] at hW
   have hB := hW.1
   clear hcl hneed hclo
   intro Q2 K2 hK2
   simp only [XInv.puts, XPrint.pw]
   go_simp
   exact hK2.out (.bool true) w' ⟨bq, rfl, fun _ _ _ => rfl, (by rw [if_neg (by simp [XInv.up, hs2])]; rw [if_pos (by simp [XInv.up, hs1])]; exact hW)⟩
  ·refine XInv.yes_tab [(127, 50), (121, 44)] (by kernel_rfl) ?_
   have hs0 := (XInv.reach hclo [39, 35, 31, 29, 25, 21, 17, 13, 11] 44 10 (by kernel_rfl) (hneed 44 (by kernel_rfl)))
   have hs1 := (XInv.reach hclo [39, 35, 31, 29] 44 28 (by kernel_rfl) (hneed 44 (by kernel_rfl)))
   have hs2 : lb 73 = false := (Bool.eq_false_or_eq_true (lb 73)).elim (fun h => absurd (XInv.reach hclo [71, 67, 60, 55] 73 51 (by kernel_rfl) h) (by rw [hlb]; decide)) id
   rw [if_neg (by rw [hs2]; decide)] at hW
   rw [if_pos hs1] at hW
   have hB := hW.1
   clear hcl hneed hclo
   intro Q2 K2 hK2
   simp only [XInv.puts, XPrint.pw]
   go_simp
   exact hK2.out (.bool true) w' ⟨bq, rfl, fun _ _ _ => rfl, (by rw [if_neg (by simp [XInv.up, hs2])]; rw [if_pos (by simp [XInv.up, hs1])]; exact hW)⟩
  ·refine XInv.yes_tab [(128, 51)] (by kernel_rfl) ?_
   have hs0 := (XInv.reach hclo [44, 39, 35, 31, 29, 25, 21, 17, 13, 11] 51 10 (by kernel_rfl) (hneed 51 (by kernel_rfl)))
   have hs1 := (XInv.reach hclo [44, 39, 35, 31, 29] 51 28 (by kernel_rfl) (hneed 51 (by kernel_rfl)))
   have hs2 : lb 73 = false := (Bool.eq_false_or_eq_true (lb 73)).elim (fun h => absurd (XInv.reach hclo [71, 67, 60, 55, 54, 53] 73 52 (by kernel_rfl) h) (by rw [hlb]; decide)) id
   rw [if_neg (by rw [hs2]; decide)] at hW
   rw [if_pos hs1] at hW
   have hB := hW.1
   clear hcl hneed hclo
   intro Q2 K2 hK2
   simp only [XInv.puts, XPrint.pw]
   go_simp
   exact hK2.out (.int .i64 0) w' ⟨bq, rfl, fun _ _ _ => rfl, (by rw [if_neg (by simp [XInv.up, hs2])]; rw [if_pos (by simp [XInv.up, hs1])]; exact hW)⟩
  ·refine XInv.yes_tab [(129, 52), (128, 51)] (by kernel_rfl) ?_
   have hs0 := (XInv.reach hclo [44, 39, 35, 31, 29, 25, 21, 17, 13, 11] 51 10 (by kernel_rfl) (hneed 51 (by kernel_rfl)))
   have hs1 := (XInv.reach hclo [44, 39, 35, 31, 29] 51 28 (by kernel_rfl) (hneed 51 (by kernel_rfl)))
   have hs2 : lb 73 = false := (Bool.eq_false_or_eq_true (lb 73)).elim (fun h => absurd (XInv.reach hclo [71, 67, 60, 55, 54] 73 53 (by kernel_rfl) h) (by rw [hlb]; decide)) id
   rw [if_neg (by rw [hs2]; decide)] at hW
   rw [if_pos hs1] at hW
   have hB := hW.1
   clear hcl hneed hclo
   intro Q2 K2 hK2
   simp only [XInv.puts, XPrint.pw]
   go_simp
   exact hK2.out (.bool true) w' ⟨bq, rfl, fun _ _ _ => rfl, (by rw [if_neg (by simp [XInv.up, hs2])]; rw [if_pos (by simp [XInv.up, hs1])]; exact hW)⟩
  ·refine XInv.yes_tab [(130, 53), (128, 51)] (by kernel_rfl) ?_
   have hs0 := (XInv.reach hclo [44, 39, 35, 31, 29, 25, 21, 17, 13, 11] 51 10 (by kernel_rfl) (hneed 51 (by kernel_rfl)))
   have hs1 := (XInv.reach hclo [44, 39, 35, 31, 29] 51 28 (by kernel_rfl) (hneed 51 (by kernel_rfl)))
   have hs2 : lb 73 = false := (Bool.eq_false_or_eq_true (lb 73)).elim (fun h => absurd (XInv.reach hclo [71, 67, 60, 55] 73 54 (by kernel_rfl) h) (by rw [hlb]; decide)) id
   rw [if_neg (by rw [hs2]; decide)] at hW
   rw [if_pos hs1] at hW
   have hB := hW.1
   clear hcl hneed hclo
   intro Q2 K2 hK2
   simp only [XInv.puts, XPrint.pw]
   go_simp
   exact hK2.out (.bool true) w' ⟨bq, rfl, fun _ _ _ => rfl, (by rw [if_neg (by simp [XInv.up, hs2])]; rw [if_pos (by simp [XInv.up, hs1])]; exact hW)⟩
  ·refine XInv.yes_tab [(131, 54), (128, 51)] (by kernel_rfl) ?_
   have hs0 := (XInv.reach hclo [44, 39, 35, 31, 29, 25, 21, 17, 13, 11] 51 10 (by kernel_rfl) (hneed 51 (by kernel_rfl)))
   have hs1 := (XInv.reach hclo [44, 39, 35, 31, 29] 51 28 (by kernel_rfl) (hneed 51 (by kernel_rfl)))
   have hs2 : lb 73 = false := (Bool.eq_false_or_eq_true (lb 73)).elim (fun h => absurd (XInv.reach hclo [71, 67, 60] 73 55 (by kernel_rfl) h) (by rw [hlb]; decide)) id
   rw [if_neg (by rw [hs2]; decide)] at hW
   rw [if_pos hs1] at hW
   have hB := hW.1
   clear hcl hneed hclo
   intro Q2 K2 hK2
   simp only [XInv.puts, XPrint.pw]
   go_simp
   exact hK2.out (.bool true) w' ⟨bq, rfl, fun _ _ _ => rfl, (by rw [if_neg (by simp [XInv.up, hs2])]; rw [if_pos (by simp [XInv.up, hs1])]; exact hW)⟩
  ·refine XInv.yes_tab [(132, 55)] (by kernel_rfl) ?_
   have hs0 := (XInv.reach hclo [51, 44, 39, 35, 31, 29, 25, 21, 17, 13, 11] 55 10 (by kernel_rfl) (hneed 55 (by kernel_rfl)))
   have hs1 := (XInv.reach hclo [51, 44, 39, 35, 31, 29] 55 28 (by kernel_rfl) (hneed 55 (by kernel_rfl)))
   have hs2 : lb 73 = false := (Bool.eq_false_or_eq_true (lb 73)).elim (fun h => absurd (XInv.reach hclo [71, 67, 60, 59, 58, 57] 73 56 (by kernel_rfl) h) (by rw [hlb]; decide)) id
   rw [if_neg (by rw [hs2]; decide)] at hW
   rw [if_pos hs1] at hW
   have hB := hW.1
   clear hcl hneed hclo
   intro Q2 K2 hK2
   simp only [XInv.puts, XPrint.pw]
   go_simp
   exact hK2.out (.slice (some a5) 1 c5) w' ⟨bq, rfl, fun _ _ _ => rfl, (by rw [if_neg (by simp [XInv.up, hs2])]; rw [if_pos (by simp [XInv.up, hs1])]; exact hW)⟩
  ·refine XInv.yes_tab [(133, 56), (132, 55)] (by kernel_rfl) ?_
   have hs0 := (XInv.reach hclo [51, 44, 39, 35, 31, 29, 25, 21, 17, 13, 11] 55 10 (by kernel_rfl) (hneed 55 (by kernel_rfl)))
   have hs1 := (XInv.reach hclo [51, 44, 39, 35, 31, 29] 55 28 (by kernel_rfl) (hneed 55 (by kernel_rfl)))
   have hs2 : lb 73 = false := (Bool.eq_false_or_eq_true (lb 73)).elim (fun h => absurd (XInv.reach hclo [71, 67, 60, 59, 58] 73 57 (by kernel_rfl) h) (by rw [hlb]; decide)) id
   rw [if_neg (by rw [hs2]; decide)] at hW
   rw [if_pos hs1] at hW
   have hB := hW.1
   clear hcl hneed hclo
   intro Q2 K2 hK2
   simp only [XInv.puts, XPrint.pw]
   go_simp
   exact hK2.out (.int .i64 1) w' ⟨bq, rfl, fun _ _ _ => rfl, (by rw [if_neg (by simp [XInv.up, hs2])]; rw [if_pos (by simp [XInv.up, hs1])]; exact hW)⟩
  ·refine XInv.yes_tab [(134, 57), (132, 55)] (by kernel_rfl) ?_
   have hs0 := (XInv.reach hclo [51, 44, 39, 35, 31, 29, 25, 21, 17, 13, 11] 55 10 (by kernel_rfl) (hneed 55 (by kernel_rfl)))
   have hs1 := (XInv.reach hclo [51, 44, 39, 35, 31, 29] 55 28 (by kernel_rfl) (hneed 55 (by kernel_rfl)))
   have hs2 : lb 73 = false := (Bool.eq_false_or_eq_true (lb 73)).elim (fun h => absurd (XInv.reach hclo [71, 67, 60, 59] 73 58 (by kernel_rfl) h) (by rw [hlb]; decide)) id
   rw [if_neg (by rw [hs2]; decide)] at hW
   rw [if_pos hs1] at hW
   have hB := hW.1
   clear hcl hneed hclo
   intro Q2 K2 hK2
   simp only [XInv.puts, XPrint.pw]
   go_simp
   exact hK2.out (.bool true) w' ⟨bq, rfl, fun _ _ _ => rfl, (by rw [if_neg (by simp [XInv.up, hs2])]; rw [if_pos (by simp [XInv.up, hs1])]; exact hW)⟩
  ·refine XInv.yes_tab [(135, 58), (132, 55)] (by kernel_rfl) ?_
   have hs0 := (XInv.reach hclo [51, 44, 39, 35, 31, 29, 25, 21, 17, 13, 11] 55 10 (by kernel_rfl) (hneed 55 (by kernel_rfl)))
   have hs1 := (XInv.reach hclo [51, 44, 39, 35, 31, 29] 55 28 (by kernel_rfl) (hneed 55 (by kernel_rfl)))
   have hs2 : lb 73 = false := (Bool.eq_false_or_eq_true (lb 73)).elim (fun h => absurd (XInv.reach hclo [71, 67, 60] 73 59 (by kernel_rfl) h) (by rw [hlb]; decide)) id
   rw [if_neg (by rw [hs2]; decide)] at hW
   rw [if_pos hs1] at hW
   have hB := hW.1
   clear hcl hneed hclo
   intro Q2 K2 hK2
   simp only [XInv.puts, XPrint.pw]
   go_simp
   exact hK2.out (.bool true) w' ⟨bq, rfl, fun _ _ _ => rfl, (by rw [if_neg (by simp [XInv.up, hs2])]; rw [if_pos (by simp [XInv.up, hs1])]; exact hW)⟩
  ·refine XInv.yes_tab [(136, 59), (132, 55)] (by kernel_rfl) ?_
   have hs0 := (XInv.reach hclo [51, 44, 39, 35, 31, 29, 25, 21, 17, 13, 11] 55 10 (by kernel_rfl) (hneed 55 (by kernel_rfl)))
   have hs1 := (XInv.reach hclo [51, 44, 39, 35, 31, 29] 55 28 (by kernel_rfl) (hneed 55 (by kernel_rfl)))
   have hs2 : lb 73 = false := (Bool.eq_false_or_eq_true (lb 73)).elim (fun h => absurd (XInv.reach hclo [71, 67] 73 60 (by kernel_rfl) h) (by rw [hlb]; decide)) id
   rw [if_neg (by rw [hs2]; decide)] at hW
   rw [if_pos hs1] at hW
   have hB := hW.1
   clear hcl hneed hclo
   intro Q2 K2 hK2
   simp only [XInv.puts, XPrint.pw]
   go_simp
   exact hK2.out (.bool true) w' ⟨bq, rfl, fun _ _ _ => rfl, (by rw [if_neg (by simp [XInv.up, hs2])]; rw [if_pos (by simp [XInv.up, hs1])]; exact hW)⟩
  ·refine XInv.yes_tab [(137, 60)] (by kernel_rfl) ?_
   have hs0 := (XInv.reach hclo [55, 51, 44, 39, 35, 31, 29, 25, 21, 17, 13, 11] 60 10 (by kernel_rfl) (hneed 60 (by kernel_rfl)))
   have hs1 := (XInv.reach hclo [55, 51, 44, 39, 35, 31, 29] 60 28 (by kernel_rfl) (hneed 60 (by kernel_rfl)))
   have hs2 : lb 73 = false := (Bool.eq_false_or_eq_true (lb 73)).elim (fun h => absurd (XInv.reach hclo [71, 67, 66, 65, 64, 63, 62] 73 61 (by kernel_rfl) h) (by rw [hlb]; decide)) id
   rw [if_neg (by rw [hs2]; decide)] at hW
   rw [if_pos hs1] at hW
   have hB := hW.1
   clear hcl hneed hclo
   intro Q2 K2 hK2
   simp only [XInv.puts, XPrint.pw]
   go_simp
   exact hK2.out (.slice (some a5) 1 c5) w' ⟨bq, rfl, fun _ _ _ => rfl, (by rw [if_neg (by simp [XInv.up, hs2])]; rw [if_pos (by simp [XInv.up, hs1])]; exact hW)⟩
  ·refine XInv.yes_tab [(138, 61), (137, 60)] (by kernel_rfl) ?_
   have hs0 := (XInv.reach hclo [55, 51, 44, 39, 35, 31, 29, 25, 21, 17, 13, 11] 60 10 (by kernel_rfl) (hneed 60 (by kernel_rfl)))
   have hs1 := (XInv.reach hclo [55, 51, 44, 39, 35, 31, 29] 60 28 (by kernel_rfl) (hneed 60 (by kernel_rfl)))
   have hs2 : lb 73 = false := (Bool.eq_false_or_eq_true (lb 73)).elim (fun h => absurd (XInv.reach hclo [71, 67, 66, 65, 64, 63] 73 62 (by kernel_rfl) h) (by rw [hlb]; decide)) id
   rw [if_neg (by rw [hs2]; decide)] at hW
   rw [if_pos hs1] at hW
   have hB := hW.1
   clear hcl hneed hclo
   intro Q2 K2 hK2
   simp only [XInv.puts, XPrint.pw]
   go_simp
   exact hK2.out (.pointer (some a5)) w' ⟨bq, rfl, fun _ _ _ => rfl, (by rw [if_neg (by simp [XInv.up, hs2])]; rw [if_pos (by simp [XInv.up, hs1])]; exact hW)⟩
  ·refine XInv.yes_tab [(139, 62), (137, 60)] (by kernel_rfl) ?_
   have hs0 := (XInv.reach hclo [55, 51, 44, 39, 35, 31, 29, 25, 21, 17, 13, 11] 60 10 (by kernel_rfl) (hneed 60 (by kernel_rfl)))
   have hs1 := (XInv.reach hclo [55, 51, 44, 39, 35, 31, 29] 60 28 (by kernel_rfl) (hneed 60 (by kernel_rfl)))
   have hs2 : lb 73 = false := (Bool.eq_false_or_eq_true (lb 73)).elim (fun h => absurd (XInv.reach hclo [71, 67, 66, 65, 64] 73 63 (by kernel_rfl) h) (by rw [hlb]; decide)) id
   rw [if_neg (by rw [hs2]; decide)] at hW
   rw [if_pos hs1] at hW
   have hB := hW.1
   clear hcl hneed hclo
   intro Q2 K2 hK2
   simp only [XInv.puts, XPrint.pw]
   go_simp
   exact hK2.out (.pointer (some a5)) w' ⟨bq, rfl, fun _ _ _ => rfl, (by rw [if_neg (by simp [XInv.up, hs2])]; rw [if_pos (by simp [XInv.up, hs1])]; exact hW)⟩
  ·refine XInv.yes_tab [(140, 63), (137, 60)] (by kernel_rfl) ?_
   have hs0 := (XInv.reach hclo [55, 51, 44, 39, 35, 31, 29, 25, 21, 17, 13, 11] 60 10 (by kernel_rfl) (hneed 60 (by kernel_rfl)))
   have hs1 := (XInv.reach hclo [55, 51, 44, 39, 35, 31, 29] 60 28 (by kernel_rfl) (hneed 60 (by kernel_rfl)))
   have hs2 : lb 73 = false := (Bool.eq_false_or_eq_true (lb 73)).elim (fun h => absurd (XInv.reach hclo [71, 67, 66, 65] 73 64 (by kernel_rfl) h) (by rw [hlb]; decide)) id
   rw [if_neg (by rw [hs2]; decide)] at hW
   rw [if_pos hs1] at hW
   have hB := hW.1
   clear hcl hneed
   intro Q2 K2 hK2
   simp only [XInv.puts, XPrint.pw]
   have i0 := pw_cell_below hB IJ.out.1
   have j0 := pw_cell_below hB IJ.out.2
   go_simp
   exact hK2.out (.int .u32 3) w' ⟨bq, rfl, fun _ _ _ => rfl, (by rw [if_neg (by simp [XInv.up, hs2])]; rw [if_pos (by simp [XInv.up, hs1])]; exact hW)⟩
  ·refine XInv.yes_tab [(141, 64), (137, 60)] (by kernel_rfl) ?_
   have hs0 := (XInv.reach hclo [55, 51, 44, 39, 35, 31, 29, 25, 21, 17, 13, 11] 60 10 (by kernel_rfl) (hneed 60 (by kernel_rfl)))
   have hs1 := (XInv.reach hclo [55, 51, 44, 39, 35, 31, 29] 60 28 (by kernel_rfl) (hneed 60 (by kernel_rfl)))
   have hs2 : lb 73 = false := (Bool.eq_false_or_eq_true (lb 73)).elim (fun h => absurd (XInv.reach hclo [71, 67, 66] 73 65 (by kernel_rfl) h) (by rw [hlb]; decide)) id
   rw [if_neg (by rw [hs2]; decide)] at hW
   rw [if_pos hs1] at hW
   have hB := hW.1
   clear hcl hneed hclo
   intro Q2 K2 hK2
   simp only [XInv.puts, XPrint.pw]
   go_simp
   exact hK2.out (.bool true) w' ⟨bq, rfl, fun _ _ _ => rfl, (by rw [if_neg (by simp [XInv.up, hs2])]; rw [if_pos (by simp [XInv.up, hs1])]; exact hW)⟩
  ·refine XInv.yes_tab [(142, 65), (137, 60)] (by kernel_rfl) ?_
   have hs0 := (XInv.reach hclo [55, 51, 44, 39, 35, 31, 29, 25, 21, 17, 13, 11] 60 10 (by kernel_rfl) (hneed 60 (by kernel_rfl)))
   have hs1 := (XInv.reach hclo [55, 51, 44, 39, 35, 31, 29] 60 28 (by kernel_rfl) (hneed 60 (by kernel_rfl)))
   have hs2 : lb 73 = false := (Bool.eq_false_or_eq_true (lb 73)).elim (fun h => absurd (XInv.reach hclo [71, 67] 73 66 (by kernel_rfl) h) (by rw [hlb]; decide)) id
   rw [if_neg (by rw [hs2]; decide)] at hW
   rw [if_pos hs1] at hW
   have hB := hW.1
   clear hcl hneed hclo
   intro Q2 K2 hK2
   simp only [XInv.puts, XPrint.pw]
   go_simp
   exact hK2.out (.bool true) w' ⟨bq, rfl, fun _ _ _ => rfl, (by rw [if_neg (by simp [XInv.up, hs2])]; rw [if_pos (by simp [XInv.up, hs1])]; exact hW)⟩
  ·refine XInv.yes_tab [(143, 66), (137, 60)] (by kernel_rfl) ?_
   have hs0 := (XInv.reach hclo [55, 51, 44, 39, 35, 31, 29, 25, 21, 17, 13, 11] 60 10 (by kernel_rfl) (hneed 60 (by kernel_rfl)))
   have hs1 := (XInv.reach hclo [55, 51, 44, 39, 35, 31, 29] 60 28 (by kernel_rfl) (hneed 60 (by kernel_rfl)))
   have hs2 : lb 73 = false := (Bool.eq_false_or_eq_true (lb 73)).elim (fun h => absurd (XInv.reach hclo [71] 73 67 (by kernel_rfl) h) (by rw [hlb]; decide)) id
   rw [if_neg (by rw [hs2]; decide)] at hW
   rw [if_pos hs1] at hW
   have hB := hW.1
   clear hcl hneed hclo
   intro Q2 K2 hK2
   simp only [XInv.puts, XPrint.pw]
   go_simp
   exact hK2.out (.bool true) w' ⟨bq, rfl, fun _ _ _ => rfl, (by rw [if_neg (by simp [XInv.up, hs2])]; rw [if_pos (by simp [XInv.up, hs1])]; exact hW)⟩
  ·refine XInv.yes_tab [(144, 67)] (by kernel_rfl) ?_
   have hs0 := (XInv.reach hclo [60, 55, 51, 44, 39, 35, 31, 29, 25, 21, 17, 13, 11] 67 10 (by kernel_rfl) (hneed 67 (by kernel_rfl)))
   have hs1 := (XInv.reach hclo [60, 55, 51, 44, 39, 35, 31, 29] 67 28 (by kernel_rfl) (hneed 67 (by kernel_rfl)))
   have hs2 : lb 73 = false := (Bool.eq_false_or_eq_true (lb 73)).elim (fun h => absurd (XInv.reach hclo [71, 70, 69] 73 68 (by kernel_rfl) h) (by rw [hlb]; decide)) id
   rw [if_neg (by rw [hs2]; decide)] at hW
   rw [if_pos hs1] at hW
   have hB := hW.1
   clear hcl hneed hclo
   intro Q2 K2 hK2
   simp only [XInv.puts, XPrint.pw]
   go_simp
   exact hK2.out (.int .i64 0) w' ⟨bq, rfl, fun _ _ _ => rfl, (by rw [if_neg (by simp [XInv.up, hs2])]; rw [if_pos (by simp [XInv.up, hs1])]; exact hW)⟩
  ·refine XInv.yes_tab [(145, 68), (144, 67)] (by kernel_rfl) ?_
   have hs0 := (XInv.reach hclo [60, 55, 51, 44, 39, 35, 31, 29, 25, 21, 17, 13, 11] 67 10 (by kernel_rfl) (hneed 67 (by kernel_rfl)))
   have hs1 := (XInv.reach hclo [60, 55, 51, 44, 39, 35, 31, 29] 67 28 (by kernel_rfl) (hneed 67 (by kernel_rfl)))
   have hs2 : lb 73 = false := (Bool.eq_false_or_eq_true (lb 73)).elim (fun h => absurd (XInv.reach hclo [71, 70] 73 69 (by kernel_rfl) h) (by rw [hlb]; decide)) id
   rw [if_neg (by rw [hs2]; decide)] at hW
   rw [if_pos hs1] at hW
   have hB := hW.1
   clear hcl hneed hclo
   intro Q2 K2 hK2
   simp only [XInv.puts, XPrint.pw]
   go_simp
   exact hK2.out (.bool true) w' ⟨bq, rfl, fun _ _ _ => rfl, (by rw [if_neg (by simp [XInv.up, hs2])]; rw [if_pos (by simp [XInv.up, hs1])]; exact hW)⟩
  ·refine XInv.yes_tab [(146, 69), (144, 67)] (by kernel_rfl) ?_
   have hs0 := (XInv.reach hclo [60, 55, 51, 44, 39, 35, 31, 29, 25, 21, 17, 13, 11] 67 10 (by kernel_rfl) (hneed 67 (by kernel_rfl)))
   have hs1 := (XInv.reach hclo [60, 55, 51, 44, 39, 35, 31, 29] 67 28 (by kernel_rfl) (hneed 67 (by kernel_rfl)))
   have hs2 : lb 73 = false := (Bool.eq_false_or_eq_true (lb 73)).elim (fun h => absurd (XInv.reach hclo [71] 73 70 (by kernel_rfl) h) (by rw [hlb]; decide)) id
   rw [if_neg (by rw [hs2]; decide)] at hW
   rw [if_pos hs1] at hW
   have hB := hW.1
   clear hcl hneed hclo
   intro Q2 K2 hK2
   simp only [XInv.puts, XPrint.pw]
   go_simp
   exact hK2.out (.bool true) w' ⟨bq, rfl, fun _ _ _ => rfl, (by rw [if_neg (by simp [XInv.up, hs2])]; rw [if_pos (by simp [XInv.up, hs1])]; exact hW)⟩
  ·refine XInv.yes_tab [(147, 70), (144, 67)] (by kernel_rfl) ?_
   have hs0 := (XInv.reach hclo [60, 55, 51, 44, 39, 35, 31, 29, 25, 21, 17, 13, 11] 67 10 (by kernel_rfl) (hneed 67 (by kernel_rfl)))
   have hs1 := (XInv.reach hclo [60, 55, 51, 44, 39, 35, 31, 29] 67 28 (by kernel_rfl) (hneed 67 (by kernel_rfl)))
   have hs2 := hcl 73 (by decide) (by kernel_rfl)
   rw [if_neg (by rw [hs2]; decide)] at hW
   rw [if_pos hs1] at hW
   have hB := hW.1
   clear hcl hneed hclo
   intro Q2 K2 hK2
   simp only [XInv.puts, XPrint.pw]
   go_simp
   exact hK2.out (.bool true) w' ⟨bq, rfl, fun _ _ _ => rfl, (by rw [if_neg (by simp [XInv.up, hs2])]; rw [if_pos (by simp [XInv.up, hs1])]; exact hW)⟩
  ·refine XInv.yes_tab [(148, 71)] (by kernel_rfl) ?_
   have hs0 := (XInv.reach hclo [67, 60, 55, 51, 44, 39, 35, 31, 29, 25, 21, 17, 13, 11] 71 10 (by kernel_rfl) (hneed 71 (by kernel_rfl)))
   have hs1 := (XInv.reach hclo [67, 60, 55, 51, 44, 39, 35, 31, 29] 71 28 (by kernel_rfl) (hneed 71 (by kernel_rfl)))
   have hs2 := hcl 73 (by decide) (by kernel_rfl)
   rw [if_neg (by rw [hs2]; decide)] at hW
   rw [if_pos hs1] at hW
   have hB := hW.1
   clear hcl hneed hclo
   intro Q2 K2 hK2
   simp only [XInv.puts, XPrint.pw]
   go_simp
   exact hK2.out (.pointer (some ⟨p, 0, none⟩)) w' ⟨bq, rfl, fun _ _ _ => rfl, (by rw [if_neg (by simp [XInv.up, hs2])]; rw [if_pos (by simp [XInv.up, hs1])]; exact hW)⟩
  ·refine XInv.yes_tab [(149, 72), (148, 71)] (by kernel_rfl) ?_
   have hs0 := (XInv.reach hclo [67, 60, 55, 51, 44, 39, 35, 31, 29, 25, 21, 17, 13, 11] 71 10 (by kernel_rfl) (hneed 71 (by kernel_rfl)))
   have hs1 := (XInv.reach hclo [67, 60, 55, 51, 44, 39, 35, 31, 29] 71 28 (by kernel_rfl) (hneed 71 (by kernel_rfl)))
   have hs2 := hlb
   rw [if_neg (by rw [hs2]; decide)] at hW
   rw [if_pos hs1] at hW
   have hB := hW.1
   clear hcl hneed
   intro Q2 K2 hK2
   simp only [XInv.puts, XPrint.pw]
   go_simp
   go_at_call 13
   (with_reducible refine ((X.out.same hB).boxes).mono ?_)
   rintro e wz ⟨vz, rfl, hRz, hbz⟩
   obtain ⟨Az, cz, rfl⟩ := Kd.R_slice hRz
   have hrz := Kd.R_reads' hRz
   exact hK2.out (.slice Az 1 cz) wz ⟨(bq.1, bq.2.1, Az, cz), rfl, (cs87 _ (fun _ => rfl) (fun _ => rfl) (fun _ => rfl) (fun _ => rfl) (fun _ => rfl) (fun _ => rfl) (fun _ => rfl) (fun _ => rfl) (fun _ => rfl) (fun _ => rfl) (fun _ => rfl) (fun _ => rfl) (fun _ => rfl) (fun _ => rfl) (fun _ => rfl) (fun _ => rfl) (fun _ => rfl) (fun _ => rfl) (fun _ => rfl) (fun _ => rfl) (fun _ => rfl) (fun _ => rfl) (fun _ => rfl) (fun _ => rfl) (fun _ => rfl) (fun _ => rfl) (fun _ => rfl) (fun _ => rfl) (fun _ => rfl) (fun _ => rfl) (fun _ => rfl) (fun _ => rfl) (fun _ => rfl) (fun _ => rfl) (fun _ => rfl) (fun _ => rfl) (fun _ => rfl) (fun _ => rfl) (fun _ => rfl) (fun _ => rfl) (fun _ => rfl) (fun _ => rfl) (fun _ => rfl) (fun _ => rfl) (fun _ => rfl) (fun _ => rfl) (fun _ => rfl) (fun _ => rfl) (fun _ => rfl) (fun _ => rfl) (fun _ => rfl) (fun _ => rfl) (fun _ => rfl) (fun _ => rfl) (fun _ => rfl) (fun _ => rfl) (fun _ => rfl) (fun _ => rfl) (fun _ => rfl) (fun _ => rfl) (fun _ => rfl) (fun _ => rfl) (fun _ => rfl) (fun _ => rfl) (fun _ => rfl) (fun _ => rfl) (fun _ => rfl) (fun _ => rfl) (fun _ => rfl) (fun _ => rfl) (fun _ => rfl) (fun _ => rfl) (fun _ => rfl) (fun hlj => absurd (hlb.symm.trans hlj) (by decide)) (fun _ => rfl) (fun _ => rfl) (fun _ => rfl) (fun _ => rfl) (fun _ => rfl) (fun _ => rfl) (fun _ => rfl) (fun _ => rfl) (fun _ => rfl) (fun _ => rfl) (fun _ => rfl) (fun _ => rfl) (fun _ => rfl)), (by rw [if_pos (by simp [XInv.up, hs2])]; exact ⟨below_step hB hbz, hrz.2.2, hrz.2.1⟩)⟩
  ·refine XInv.yes_tab [(148, 71)] (by kernel_rfl) ?_
   have hs0 := (XInv.reach hclo [67, 60, 55, 51, 44, 39, 35, 31, 29, 25, 21, 17, 13, 11] 71 10 (by kernel_rfl) (hneed 71 (by kernel_rfl)))
   have hs1 := (XInv.reach hclo [67, 60, 55, 51, 44, 39, 35, 31, 29] 71 28 (by kernel_rfl) (hneed 71 (by kernel_rfl)))
   cases hs2 : lb 73
   case false =>
    rw [if_neg (by rw [hs2]; decide)] at hW
    rw [if_pos hs1] at hW
    have hB := hW.1
    clear hcl hneed hclo
    intro Q2 K2 hK2
    simp only [XInv.puts, XPrint.pw]
    go_simp
    exact hK2.out (.slice A1 2 c1) w' ⟨bq, rfl, fun _ _ _ => rfl, (by rw [if_neg (by simp [XInv.up, hs2])]; rw [if_pos (by simp [XInv.up, hs1])]; exact hW)⟩
   case true =>
    rw [if_pos hs2] at hW
    have hB := hW.1
    clear hcl hneed hclo
    intro Q2 K2 hK2
    simp only [XInv.puts, XPrint.pw]
    go_simp
    exact hK2.out (.slice A1 2 c1) w' ⟨bq, rfl, fun _ _ _ => rfl, (by rw [if_pos (by simp [XInv.up, hs2])]; exact hW)⟩
  ·refine XInv.yes_tab [(151, 74), (148, 71)] (by kernel_rfl) ?_
   have hs0 := (XInv.reach hclo [67, 60, 55, 51, 44, 39, 35, 31, 29, 25, 21, 17, 13, 11] 71 10 (by kernel_rfl) (hneed 71 (by kernel_rfl)))
   have hs1 := (XInv.reach hclo [67, 60, 55, 51, 44, 39, 35, 31, 29] 71 28 (by kernel_rfl) (hneed 71 (by kernel_rfl)))
   cases hs2 : lb 73
   case false =>
    rw [if_neg (by rw [hs2]; decide)] at hW
    rw [if_pos hs1] at hW
    have hB := hW.1
    clear hcl hneed hclo
    intro Q2 K2 hK2
    simp only [XInv.puts, XPrint.pw]
    go_simp
    exact hK2.out (.slice A1 1 c1) w' ⟨bq, rfl, fun _ _ _ => rfl, (by rw [if_neg (by simp [XInv.up, hs2])]; rw [if_pos (by simp [XInv.up, hs1])]; exact hW)⟩
   case true =>
    rw [if_pos hs2] at hW
    have hB := hW.1
    clear hcl hneed hclo
    intro Q2 K2 hK2
    simp only [XInv.puts, XPrint.pw]
    go_simp
    exact hK2.out (.slice A1 1 c1) w' ⟨bq, rfl, fun _ _ _ => rfl, (by rw [if_pos (by simp [XInv.up, hs2])]; exact hW)⟩
  ·refine XInv.yes_tab [(152, 75), (150, 73), (148, 71)] (by kernel_rfl) ?_
   have hs0 := (XInv.reach hclo [67, 60, 55, 51, 44, 39, 35, 31, 29, 25, 21, 17, 13, 11] 71 10 (by kernel_rfl) (hneed 71 (by kernel_rfl)))
   have hs1 := (XInv.reach hclo [67, 60, 55, 51, 44, 39, 35, 31, 29] 71 28 (by kernel_rfl) (hneed 71 (by kernel_rfl)))
   have hs2 := hneed 73 (by kernel_rfl)
   rw [if_pos hs2] at hW
   have hB := hW.1
   clear hcl hneed
   intro Q2 K2 hK2
   simp only [XInv.puts, XPrint.pw]
   go_simp
   go_at_call 29
   (with_reducible refine (dsame [b1] _ _ 1 _ _ _ hW.2.1 (CT.out w' hB) rfl (by decide)).mono ?_)
   rintro e wz ⟨rfl, hb⟩
   exact hK2.out (.bool true) wz ⟨bq, rfl, fun _ _ _ => rfl, (by rw [if_pos (by simp [XInv.up, hs2])]; exact ⟨below_step hB hb, Kd.C_below hW.2.1 hb, hW.2.2⟩)⟩
  ·refine XInv.yes_tab [(153, 76), (148, 71)] (by kernel_rfl) ?_
   have hs0 := (XInv.reach hclo [67, 60, 55, 51, 44, 39, 35, 31, 29, 25, 21, 17, 13, 11] 71 10 (by kernel_rfl) (hneed 71 (by kernel_rfl)))
   have hs1 := (XInv.reach hclo [67, 60, 55, 51, 44, 39, 35, 31, 29] 71 28 (by kernel_rfl) (hneed 71 (by kernel_rfl)))
   have hs2 := (XInv.reach hclo [] 76 73 (by kernel_rfl) (hneed 76 (by kernel_rfl)))
   rw [if_pos hs2] at hW
   have hB := hW.1
   clear hcl hneed hclo
   intro Q2 K2 hK2
   simp only [XInv.puts, XPrint.pw]
   go_simp
   exact hK2.out (.bool true) w' ⟨bq, rfl, fun _ _ _ => rfl, (by rw [if_pos (by simp [XInv.up, hs2])]; exact hW)⟩
  ·refine XInv.yes_tab [(154, 77), (153, 76)] (by kernel_rfl) ?_
   have hs0 := (XInv.reach hclo [71, 67, 60, 55, 51, 44, 39, 35, 31, 29, 25, 21, 17, 13, 11] 76 10 (by kernel_rfl) (hneed 76 (by kernel_rfl)))
   have hs1 := (XInv.reach hclo [71, 67, 60, 55, 51, 44, 39, 35, 31, 29] 76 28 (by kernel_rfl) (hneed 76 (by kernel_rfl)))
   have hs2 := (XInv.reach hclo [] 76 73 (by kernel_rfl) (hneed 76 (by kernel_rfl)))
   rw [if_pos hs2] at hW
   have hB := hW.1
   clear hcl hneed hclo
   intro Q2 K2 hK2
   simp only [XInv.puts, XPrint.pw]
   go_simp
   exact hK2.out (.bool true) w' ⟨bq, rfl, fun _ _ _ => rfl, (by rw [if_pos (by simp [XInv.up, hs2])]; exact hW)⟩
  ·refine XInv.yes_tab [(155, 78)] (by kernel_rfl) ?_
   have hs0 := (XInv.reach hclo [76, 71, 67, 60, 55, 51, 44, 39, 35, 31, 29, 25, 21, 17, 13, 11] 78 10 (by kernel_rfl) (hneed 78 (by kernel_rfl)))
   have hs1 := (XInv.reach hclo [76, 71, 67, 60, 55, 51, 44, 39, 35, 31, 29] 78 28 (by kernel_rfl) (hneed 78 (by kernel_rfl)))
   have hs2 := (XInv.reach hclo [76] 78 73 (by kernel_rfl) (hneed 78 (by kernel_rfl)))
   rw [if_pos hs2] at hW
   have hB := hW.1
   clear hcl hneed hclo
   intro Q2 K2 hK2
   simp only [XInv.puts, XPrint.pw]
   go_simp
   exact hK2.out (.int .i64 7) w' ⟨bq, rfl, fun _ _ _ => rfl, (by rw [if_pos (by simp [XInv.up, hs2])]; exact hW)⟩
  ·refine XInv.yes_tab [(156, 79), (155, 78)] (by kernel_rfl) ?_
   have hs0 := (XInv.reach hclo [76, 71, 67, 60, 55, 51, 44, 39, 35, 31, 29, 25, 21, 17, 13, 11] 78 10 (by kernel_rfl) (hneed 78 (by kernel_rfl)))
   have hs1 := (XInv.reach hclo [76, 71, 67, 60, 55, 51, 44, 39, 35, 31, 29] 78 28 (by kernel_rfl) (hneed 78 (by kernel_rfl)))
   have hs2 := (XInv.reach hclo [76] 78 73 (by kernel_rfl) (hneed 78 (by kernel_rfl)))
   rw [if_pos hs2] at hW
   have hB := hW.1
   clear hcl hneed hclo
   intro Q2 K2 hK2
   simp only [XInv.puts, XPrint.pw]
   go_simp
   exact hK2.out (.bool true) w' ⟨bq, rfl, fun _ _ _ => rfl, (by rw [if_pos (by simp [XInv.up, hs2])]; exact hW)⟩
  ·refine XInv.yes_tab [(157, 80), (155, 78)] (by kernel_rfl) ?_
   have hs0 := (XInv.reach hclo [76, 71, 67, 60, 55, 51, 44, 39, 35, 31, 29, 25, 21, 17, 13, 11] 78 10 (by kernel_rfl) (hneed 78 (by kernel_rfl)))
   have hs1 := (XInv.reach hclo [76, 71, 67, 60, 55, 51, 44, 39, 35, 31, 29] 78 28 (by kernel_rfl) (hneed 78 (by kernel_rfl)))
   have hs2 := (XInv.reach hclo [76] 78 73 (by kernel_rfl) (hneed 78 (by kernel_rfl)))
   rw [if_pos hs2] at hW
   have hB := hW.1
   clear hcl hneed hclo
   intro Q2 K2 hK2
   simp only [XInv.puts, XPrint.pw]
   go_simp
   exact hK2.out (.bool true) w' ⟨bq, rfl, fun _ _ _ => rfl, (by rw [if_pos (by simp [XInv.up, hs2])]; exact hW)⟩
  ·refine XInv.yes_tab [(158, 81), (155, 78)] (by kernel_rfl) ?_
   have hs0 := (XInv.reach hclo [76, 71, 67, 60, 55, 51, 44, 39, 35, 31, 29, 25, 21, 17, 13, 11] 78 10 (by kernel_rfl) (hneed 78 (by kernel_rfl)))
   have hs1 := (XInv.reach hclo [76, 71, 67, 60, 55, 51, 44, 39, 35, 31, 29] 78 28 (by kernel_rfl) (hneed 78 (by kernel_rfl)))
   have hs2 := (XInv.reach hclo [76] 78 73 (by kernel_rfl) (hneed 78 (by kernel_rfl)))
   rw [if_pos hs2] at hW
   have hB := hW.1
   clear hcl hneed hclo
   intro Q2 K2 hK2
   simp only [XInv.puts, XPrint.pw]
   go_simp
   exact hK2.out (.bool true) w' ⟨bq, rfl, fun _ _ _ => rfl, (by rw [if_pos (by simp [XInv.up, hs2])]; exact hW)⟩
  ·refine XInv.yes_tab [(159, 82)] (by kernel_rfl) ?_
   have hs0 := (XInv.reach hclo [78, 76, 71, 67, 60, 55, 51, 44, 39, 35, 31, 29, 25, 21, 17, 13, 11] 82 10 (by kernel_rfl) (hneed 82 (by kernel_rfl)))
   have hs1 := (XInv.reach hclo [78, 76, 71, 67, 60, 55, 51, 44, 39, 35, 31, 29] 82 28 (by kernel_rfl) (hneed 82 (by kernel_rfl)))
   have hs2 := (XInv.reach hclo [78, 76] 82 73 (by kernel_rfl) (hneed 82 (by kernel_rfl)))
   rw [if_pos hs2] at hW
   have hB := hW.1
   clear hcl hneed hclo
   intro Q2 K2 hK2
   simp only [XInv.puts, XPrint.pw]
   go_simp
   exact hK2.out (.int .i64 2) w' ⟨bq, rfl, fun _ _ _ => rfl, (by rw [if_pos (by simp [XInv.up, hs2])]; exact hW)⟩
  ·refine XInv.yes_tab [(160, 83), (159, 82)] (by kernel_rfl) ?_
   have hs0 := (XInv.reach hclo [78, 76, 71, 67, 60, 55, 51, 44, 39, 35, 31, 29, 25, 21, 17, 13, 11] 82 10 (by kernel_rfl) (hneed 82 (by kernel_rfl)))
   have hs1 := (XInv.reach hclo [78, 76, 71, 67, 60, 55, 51, 44, 39, 35, 31, 29] 82 28 (by kernel_rfl) (hneed 82 (by kernel_rfl)))
   have hs2 := (XInv.reach hclo [78, 76] 82 73 (by kernel_rfl) (hneed 82 (by kernel_rfl)))
   rw [if_pos hs2] at hW
   have hB := hW.1
   clear hcl hneed hclo
   intro Q2 K2 hK2
   simp only [XInv.puts, XPrint.pw]
   go_simp
   exact hK2.out (.bool true) w' ⟨bq, rfl, fun _ _ _ => rfl, (by rw [if_pos (by simp [XInv.up, hs2])]; exact hW)⟩
  ·refine XInv.yes_tab [(161, 84), (159, 82)] (by kernel_rfl) ?_
   have hs0 := (XInv.reach hclo [78, 76, 71, 67, 60, 55, 51, 44, 39, 35, 31, 29, 25, 21, 17, 13, 11] 82 10 (by kernel_rfl) (hneed 82 (by kernel_rfl)))
   have hs1 := (XInv.reach hclo [78, 76, 71, 67, 60, 55, 51, 44, 39, 35, 31, 29] 82 28 (by kernel_rfl) (hneed 82 (by kernel_rfl)))
   have hs2 := (XInv.reach hclo [78, 76] 82 73 (by kernel_rfl) (hneed 82 (by kernel_rfl)))
   rw [if_pos hs2] at hW
   have hB := hW.1
   clear hcl hneed hclo
   intro Q2 K2 hK2
   simp only [XInv.puts, XPrint.pw]
   go_simp
   exact hK2.out (.bool true) w' ⟨bq, rfl, fun _ _ _ => rfl, (by rw [if_pos (by simp [XInv.up, hs2])]; exact hW)⟩
  ·refine XInv.yes_tab [(162, 85), (161, 84), (160, 83), (159, 82), (158, 81), (157, 80), (156, 79), (155, 78), (154, 77), (153, 76), (152, 75), (151, 74), (150, 73), (149, 72), (148, 71), (147, 70), (146, 69), (145, 68), (144, 67), (143, 66), (142, 65), (141, 64), (140, 63), (139, 62), (138, 61), (137, 60), (136, 59), (135, 58), (134, 57), (133, 56), (132, 55), (131, 54), (130, 53), (129, 52), (128, 51), (127, 50), (126, 49), (125, 48), (124, 47), (123, 46), (122, 45), (121, 44), (120, 43), (119, 42), (118, 41), (117, 40), (116, 39), (115, 38), (114, 37), (113, 36), (112, 35), (111, 34), (110, 33), (109, 32), (108, 31), (107, 30), (106, 29), (105, 28), (104, 27), (103, 26), (102, 25), (101, 24), (100, 23), (99, 22), (98, 21), (97, 20), (96, 19), (95, 18), (94, 17), (93, 16), (92, 15), (91, 14), (90, 13), (89, 12), (88, 11), (87, 10), (86, 9), (85, 8), (84, 7), (83, 6), (82, 5), (81, 4), (80, 3), (79, 2), (78, 1), (77, 0)] (by kernel_rfl) ?_
   have hs0 := hneed 10 (by kernel_rfl)
   have hs1 := hneed 28 (by kernel_rfl)
   have hs2 := hneed 73 (by kernel_rfl)
   rw [if_pos hs2] at hW
   have hB := hW.1
   clear hcl hneed hclo
   intro Q2 K2 hK2
   simp only [XInv.puts, XPrint.pw] at hK2 ⊢
   go_simp
   exact hK2.out (.bool true) w' ⟨bq, rfl, fun _ _ _ => rfl, (by rw [if_pos (by simp [XInv.up, hs2])]; exact hW)⟩
 ·intro bq w' hW
  refine XInv.end_nil [(0, 86), (162, 85), (161, 84), (160, 83), (159, 82), (158, 81), (157, 80), (156, 79), (155, 78), (154, 77), (153, 76), (152, 75), (151, 74), (150, 73), (149, 72), (148, 71), (147, 70), (146, 69), (145, 68), (144, 67), (143, 66), (142, 65), (141, 64), (140, 63), (139, 62), (138, 61), (137, 60), (136, 59), (135, 58), (134, 57), (133, 56), (132, 55), (131, 54), (130, 53), (129, 52), (128, 51), (127, 50), (126, 49), (125, 48), (124, 47), (123, 46), (122, 45), (121, 44), (120, 43), (119, 42), (118, 41), (117, 40), (116, 39), (115, 38), (114, 37), (113, 36), (112, 35), (111, 34), (110, 33), (109, 32), (108, 31), (107, 30), (106, 29), (105, 28), (104, 27), (103, 26), (102, 25), (101, 24), (100, 23), (99, 22), (98, 21), (97, 20), (96, 19), (95, 18), (94, 17), (93, 16), (92, 15), (91, 14), (90, 13), (89, 12), (88, 11), (87, 10), (86, 9), (85, 8), (84, 7), (83, 6), (82, 5), (81, 4), (80, 3), (79, 2), (78, 1), (77, 0)] (by kernel_rfl) (by kernel_rfl) ?_
  simp only [XInv.puts, XPrint.pw]
  rw [if_pos (by kernel_rfl)] at hW
  have Z := Aside0.mk hW.1
  clear hW
  go_wp2
  go_ret
  exact ⟨rfl, below_step X.out.below Z.out⟩
end Go.Proofs.YthibppfdonepoaaGreat.LedT
set_option linter.unusedVariables false
namespace Go.Proofs.YthibppfdonepoaaGreat.NodeT
open Go.RowKit Go.MapKept Go.Maps Go.ChangeMaps Go.Proofs.YthibppfdonepoaaGreat.XBut Go.Proofs.YthibppfdonepoaaGreat.XMap Go.Proofs.YthibppfdonepoaaGreat.PNodePlays Go.Proofs.YthibppfdonepoaaGreatW.PrintWords Go.Proofs.YthibppfdonepoaaGreatW.PrintLast
theorem rin_f (a b c : Int) : liveryref22_in.f a b c = some (decide (okV c ⟨a, b⟩)) := by
 unfold liveryref22_in.f
 by_cases h1 : a ≥ c
 ·by_cases h2 : a ≤ 1073741824
  ·by_cases h3 : b ≥ c
   ·rw [if_pos h1, if_pos h2, if_pos h3]
    congr 1
    exact decide_eq_decide.2 ⟨fun h => ⟨⟨h1, h3⟩, h2, h⟩, fun h => h.2.2⟩
   ·rw [if_pos h1, if_pos h2, if_neg h3, decide_eq_false (fun h : okV c ⟨a, b⟩ => h3 h.1.2)]
  ·rw [if_pos h1, if_neg h2, decide_eq_false (fun h : okV c ⟨a, b⟩ => h2 h.2.1)]
 ·rw [if_neg h1, decide_eq_false (fun h : okV c ⟨a, b⟩ => h1 h.1.1)]
theorem rnew_f (a b : Int) : liveryref22_New.f a b = if okV 1 ⟨a, b⟩ then some (a, b, [], 0) else some (0, 0, [], 2) := by
 unfold liveryref22_New.f
 rw [rin_f, Option.bind_some]
 by_cases h : okV 1 ⟨a, b⟩
 ·rw [if_pos (decide_eq_true h), if_pos h]
 ·rw [if_neg (by simp [h]), if_neg h]
theorem runits_ev {u0 u1 : Int} {x : S59} (ns : List S59) (hu : okV 1 ⟨u0, u1⟩) (hx : okV 0 x.f1) : Ev (fun k => liveryref22_Units.f k u0 u1 ns x.f0 x.f1.f0 x.f1.f1) (uns u0 u1 x) := by
 obtain ⟨K, h⟩ := refUnits_at hu hx
 refine ⟨K, fun k hk => ?_⟩
 have := h k hk
 dsimp only at this
 simp only [liveryref22_Units.f]
 rw [this]
 rfl
def may (u0 u1 : Int) (x : S59) : Bool := decide (0 < x.f0 ∧ okV 0 x.f1 ∧ uns u0 u1 x ≤ 4096)
theorem rmay_ev {u0 u1 : Int} (x : S59) (ns : List S59) (hu : okV 1 ⟨u0, u1⟩) : Ev (fun k => liveryref22_May.f k u0 u1 ns x.f0 x.f1.f0 x.f1.f1) (may u0 u1 x) := by
 by_cases h0 : x.f0 > 0
 ·by_cases h1 : okV 0 x.f1
  ·obtain ⟨K, h⟩ := runits_ev ns hu h1
   refine ⟨K, fun k hk => ?_⟩
   have := h k hk
   dsimp only at this
   simp only [liveryref22_May.f]
   rw [if_pos h0, rin_f, Option.bind_some, if_pos (decide_eq_true h1), this, Option.bind_some]
   congr 1
   exact decide_eq_decide.2 ⟨fun h => ⟨h0, h1, h⟩, fun h => h.2.2⟩
  ·refine ⟨0, fun k _ => ?_⟩
   simp only [liveryref22_May.f]
   rw [if_pos h0, rin_f, Option.bind_some, if_neg (by simp [h1])]
   unfold may
   rw [decide_eq_false (fun h => h1 h.2.1)]
 ·refine ⟨0, fun k _ => ?_⟩
  simp only [liveryref22_May.f]
  rw [if_neg h0]
  unfold may
  rw [decide_eq_false (fun h => h0 h.1)]
def place : List S59 → Int → Int
 | [], _ => -1
 | a :: l, i => if a.f0 = i then 0 else if place l i = -1 then -1 else place l i + 1
theorem place_cons (a : S59) (l : List S59) (i : Int) : place (a :: l) i = if a.f0 = i then 0 else if place l i = -1 then -1 else place l i + 1 := rfl
theorem place_ge (ns : List S59) (i : Int) : -1 ≤ place ns i ∧ place ns i < ns.length := by
 induction ns with
 | nil => simp [place]
 | cons a l ih =>
  unfold place
  simp only [List.length_cons]
  split
  ·omega
  ·split <;> omega
theorem place_who (ns : List S59) (i : Int) : place ns i < 0 ↔ who ns i = none := by
 unfold who
 induction ns with
 | nil => simp [place]
 | cons a l ih =>
  have h := place_ge l i
  unfold place
  rw [List.find?_cons]
  by_cases h1 : a.f0 = i
  ·rw [if_pos h1]
   simp [h1]
  ·rw [if_neg h1, show (a.f0 == i) = false from by simpa using h1]
   dsimp only
   split
   ·rw [← ih]; omega
   ·rw [← ih]; omega
theorem rat_l0 (u0 u1 i : Int) (ns : List S59) (hl : ns.length ≤ 1000000) : ∀ (d k j : Nat), j + d = ns.length → d < k → liveryref22_At.l0 k i j u0 u1 ns = some (if place (ns.drop j) i = -1 then -1 else place (ns.drop j) i + j)
 | 0, k, j, h, hk => by
  obtain ⟨k, rfl⟩ : ∃ m, k = m + 1 := ⟨k - 1, by omega⟩
  simp only [liveryref22_At.l0]
  rw [if_neg (by omega), List.drop_eq_nil_of_le (by omega)]
  simp [place]
 | d + 1, k, j, h, hk => by
  obtain ⟨k, rfl⟩ : ∃ m, k = m + 1 := ⟨k - 1, by omega⟩
  simp only [liveryref22_At.l0]
  have hj : j < ns.length := by omega
  have er : rd_T59 ns (j : Int) = ns[j] := by unfold rd_T59; rw [Int.toNat_natCast, List.getD_eq_getElem?_getD, List.getElem?_eq_getElem hj]; rfl
  rw [if_pos (by omega), if_pos (by omega), er, List.drop_eq_getElem_cons hj]
  unfold place
  by_cases h1 : ns[j].f0 = i
  ·rw [if_pos h1, if_pos h1, if_neg (by omega)]
   congr 1
   omega
  ·rw [if_neg h1, if_neg h1, show wrap64 ((j : Int) + 1) = ((j + 1 : Nat) : Int) by unfold wrap64; omega, rat_l0 u0 u1 i ns hl d k (j + 1) (by omega) (by omega)]
   congr 1
   have hg := place_ge (ns.drop (j + 1)) i
   by_cases h2 : place (ns.drop (j + 1)) i = -1
   ·rw [if_pos h2, if_pos h2, if_pos rfl]
   ·rw [if_neg h2, if_neg h2, if_neg (by omega)]
    omega
theorem rat_f (u0 u1 i : Int) (ns : List S59) (hl : ns.length ≤ 1000000) (k : Nat) (hk : ns.length < k) : liveryref22_At.f k u0 u1 ns i = some (place ns i) := by
 unfold liveryref22_At.f
 rw [show (0 : Int) = ((0 : Nat) : Int) from rfl, rat_l0 u0 u1 i ns hl ns.length k 0 (by omega) hk, List.drop_zero]
 congr 1
 split
 ·rename_i h; exact h.symm
 ·simp
theorem place_at {ns : List S59} {i : Int} (h : 0 ≤ place ns i) : ∃ hj : (place ns i).toNat < ns.length, who ns i = some ns[(place ns i).toNat] := by
 have hg := place_ge ns i
 refine ⟨by omega, ?_⟩
 unfold who
 induction ns with
 | nil => simp [place] at h
 | cons a l ih =>
  rw [List.find?_cons]
  by_cases h1 : a.f0 = i
  ·have e : place (a :: l) i = 0 := by rw [place_cons, if_pos h1]
   simp only [e, show (a.f0 == i) = true from by simpa using h1]
   rfl
  ·have hl := place_ge l i
   by_cases h2 : place l i = -1
   ·have e : place (a :: l) i = -1 := by rw [place_cons, if_neg h1, if_pos h2]
    omega
   ·have e : place (a :: l) i = place l i + 1 := by rw [place_cons, if_neg h1, if_neg h2]
    have e2 : (place l i + 1).toNat = (place l i).toNat + 1 := by omega
    simp only [e, show (a.f0 == i) = false from by simpa using h1, e2, List.getElem_cons_succ]
    exact ih (by omega) hl
theorem place_less {ns : List S59} {i : Int} (hr : ns.Pairwise fun x y => x.f0 < y.f0) (h : 0 ≤ place ns i) : ns.take (place ns i).toNat ++ ns.drop ((place ns i).toNat + 1) = less ns i := by
 induction ns with
 | nil => simp [place] at h
 | cons a l ih =>
  obtain ⟨hr1, hr2⟩ := List.pairwise_cons.1 hr
  unfold less
  rw [List.filter_cons]
  by_cases h1 : a.f0 = i
  ·have e : place (a :: l) i = 0 := by rw [place_cons, if_pos h1]
   rw [e, if_neg (by simpa using h1)]
   simp only [Int.toNat_zero, List.take_zero, List.nil_append, Nat.zero_add, List.drop_succ_cons, List.drop_zero]
   refine (List.filter_eq_self.2 fun x hx => ?_).symm
   have := hr1 x hx
   simp
   omega
  ·have hl := place_ge l i
   by_cases h2 : place l i = -1
   ·have e : place (a :: l) i = -1 := by rw [place_cons, if_neg h1, if_pos h2]
    omega
   ·have e : place (a :: l) i = place l i + 1 := by rw [place_cons, if_neg h1, if_neg h2]
    have e2 : (place l i + 1).toNat = (place l i).toNat + 1 := by omega
    rw [e, e2, if_pos (by simpa using h1), List.take_succ_cons, List.drop_succ_cons, List.cons_append, ih hr2 (by omega)]
    rfl
end Go.Proofs.YthibppfdonepoaaGreat.NodeT
set_option linter.unusedVariables false
namespace Go.Proofs.YthibppfdonepoaaGreat.NodeT
open Go.RowKit Go.MapKept Go.Maps Go.ChangeMaps Go.Proofs.YthibppfdonepoaaGreat.XBut Go.Proofs.YthibppfdonepoaaGreat.XMap Go.Proofs.YthibppfdonepoaaGreat.PNodePlays Go.Proofs.YthibppfdonepoaaGreatW.PrintWords Go.Proofs.YthibppfdonepoaaGreatW.PrintLast
theorem rlose_f (u0 u1 i : Int) (ns : List S59) (hl : ns.length ≤ 32) (hr : ns.Pairwise fun x y => x.f0 < y.f0) (k : Nat) (hk : ns.length < k) :
  liveryref22_Lose.f k u0 u1 ns i = some (u0, u1, less ns i, (lost ns i).1.f0, (lost ns i).1.f1.f0, (lost ns i).1.f1.f1, (lost ns i).2) := by
 unfold liveryref22_Lose.f
 rw [rat_f u0 u1 i ns (by omega) k hk, Option.bind_some]
 have hg := place_ge ns i
 by_cases h : place ns i < 0
 ·have hw := (place_who ns i).1 h
  rw [if_pos h, less_none hw]
  unfold lost
  rw [hw]
 ·obtain ⟨hj, hw⟩ := place_at (ns := ns) (i := i) (by omega)
  have hp := place_less hr (i := i) (by omega)
  have e2 : (wrap64 (place ns i + 1)).toNat = (place ns i).toNat + 1 := by unfold wrap64; omega
  have e1 : wrap64 (place ns i + 1) = place ns i + 1 := by unfold wrap64; omega
  have er : rd_T59 ns (place ns i) = ns[(place ns i).toNat] := by unfold rd_T59; rw [List.getD_eq_getElem?_getD, List.getElem?_eq_getElem hj]; rfl
  rw [if_neg h, if_pos (by omega), if_pos (by omega), Option.bind_some, if_pos (by omega), Option.bind_some, if_pos (by simp; omega), Option.bind_some, e1, if_pos (by omega), if_pos (by omega), Option.bind_some, if_pos (by simp; omega), er]
  rw [show (place ns i + 1).toNat = (place ns i).toNat + 1 by omega, List.nil_append, hp]
  unfold lost
  rw [hw]
theorem rtotal_l0 {u0 u1 : Int} {ns : List S59} (hG : Good u0 u1 ns) : ∃ K, ∀ (d k j : Nat), j + d = ns.length → K + d < k → liveryref22_Total.l0 k (sumU (uns u0 u1) (ns.take j)) j u0 u1 ns = some (sumU (uns u0 u1) ns) := by
 have : ∃ K, ∀ k, K ≤ k → ∀ x ∈ ns, liveryref22_Units.f k u0 u1 ns x.f0 x.f1.f0 x.f1.f1 = some (uns u0 u1 x) := by
  have hall : ∀ x ∈ ns, okV 0 x.f1 := fun x hx => (hG.all x hx).2.1
  have main : ∀ l : List S59, (∀ x ∈ l, okV 0 x.f1) → ∃ K, ∀ k, K ≤ k → ∀ x ∈ l, liveryref22_Units.f k u0 u1 ns x.f0 x.f1.f0 x.f1.f1 = some (uns u0 u1 x) := by
   intro l hx
   induction l with
   | nil => exact ⟨0, fun _ _ _ h => by cases h⟩
   | cons a l ih =>
    obtain ⟨K1, h1⟩ := ih fun x h => hx x (by simp [h])
    obtain ⟨K2, h2⟩ := runits_ev ns hG.unit (hx a (by simp))
    refine ⟨K1 + K2, fun k hk x h => ?_⟩
    rcases List.mem_cons.1 h with rfl | h
    ·exact h2 k (by omega)
    ·exact h1 k (by omega) x h
  exact main ns hall
 obtain ⟨K, hK⟩ := this
 refine ⟨K, fun d => ?_⟩
 induction d with
 | zero =>
  intro k j h hk
  obtain ⟨k, rfl⟩ : ∃ m, k = m + 1 := ⟨k - 1, by omega⟩
  simp only [liveryref22_Total.l0]
  rw [if_neg (by omega), List.take_of_length_le (by omega)]
 | succ d ih =>
  intro k j h hk
  obtain ⟨k, rfl⟩ : ∃ m, k = m + 1 := ⟨k - 1, by omega⟩
  simp only [liveryref22_Total.l0]
  have hj : j < ns.length := by omega
  have hl := hG.len
  have er : rd_T59 ns (j : Int) = ns[j] := by unfold rd_T59; rw [Int.toNat_natCast, List.getD_eq_getElem?_getD, List.getElem?_eq_getElem hj]; rfl
  have hs := sumU_step (uns u0 u1) ns j hj
  have hb := sum_bound (uns u0 u1) (ns.take j) (fun x hx => hG.units x (List.mem_of_mem_take hx))
  have hu := hG.units _ (List.getElem_mem hj)
  have hlt : (ns.take j).length ≤ 32 := by rw [List.length_take]; omega
  rw [if_pos (by omega), if_pos (by omega), er, hK k (by omega) _ (List.getElem_mem hj), Option.bind_some, w64 (by unfold b64; omega), ← hs, show wrap64 ((j : Int) + 1) = ((j + 1 : Nat) : Int) by unfold wrap64; omega]
  exact ih k (j + 1) (by omega) (by omega)
theorem rtotal_ev {u0 u1 : Int} {ns : List S59} (hG : Good u0 u1 ns) : Ev (fun k => liveryref22_Total.f k u0 u1 ns) (sumU (uns u0 u1) ns) := by
 obtain ⟨K, h⟩ := rtotal_l0 hG
 refine ⟨K + ns.length + 1, fun k hk => ?_⟩
 have := h ns.length k 0 (by omega) (by omega)
 rw [List.take_zero] at this
 exact this
end Go.Proofs.YthibppfdonepoaaGreat.NodeT
