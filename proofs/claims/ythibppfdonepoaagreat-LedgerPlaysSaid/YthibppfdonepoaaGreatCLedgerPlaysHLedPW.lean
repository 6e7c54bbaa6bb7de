/- liverylaw23.head. liverylaw23.LedgerPlays: units that may not be; the world while an act is done and told. -/
import Derived.Test.YthibppfdonepoaaGreatCLedgerPlaysHLedP
import Derived.Test.YthibppfdonepoaaGreatCLedgerPlaysHNodeX
import Derived.Test.YthibppfdonepoaaGreatCLedgerPlaysHLedTT
import Derived.Test.YthibppfdonepoaaGreatCLedgerPlaysHLedSm
set_option maxHeartbeats 32000000
set_option maxRecDepth 100000
set_option linter.unusedVariables false
set_option linter.unusedSimpArgs false
namespace Go.Proofs.YthibppfdonepoaaGreat.LedT
open Go.RowKit Go.MapKept Go.Maps Go.ChangeMaps Go.Proofs.YthibppfdonepoaaGreat.XBut Go.Proofs.YthibppfdonepoaaGreat.XMap Go.Proofs.YthibppfdonepoaaGreat.NodeT Go.Proofs.YthibppfdonepoaaGreatW.PrintWords Go.Proofs.YthibppfdonepoaaGreatW.PrintLast
def m5 : Nd := ⟨5, ⟨2, 9⟩⟩
def m3 : Nd := ⟨3, ⟨1, 1⟩⟩
def b1 : Bx := ⟨1, 3, 7, false⟩
def b2 : Bx := ⟨2, 5, 7, false⟩
def b3 : Bx := ⟨3, 5, 8, true⟩
theorem cs87 (P : Nat → Prop) (h0 : P 0) (h1 : P 1) (h2 : P 2) (h3 : P 3) (h4 : P 4) (h5 : P 5) (h6 : P 6) (h7 : P 7) (h8 : P 8) (h9 : P 9) (h10 : P 10) (h11 : P 11) (h12 : P 12) (h13 : P 13) (h14 : P 14) (h15 : P 15) (h16 : P 16) (h17 : P 17) (h18 : P 18) (h19 : P 19) (h20 : P 20) (h21 : P 21) (h22 : P 22) (h23 : P 23) (h24 : P 24) (h25 : P 25) (h26 : P 26) (h27 : P 27) (h28 : P 28) (h29 : P 29) (h30 : P 30) (h31 : P 31) (h32 : P 32) (h33 : P 33) (h34 : P 34) (h35 : P 35) (h36 : P 36) (h37 : P 37) (h38 : P 38) (h39 : P 39) (h40 : P 40) (h41 : P 41) (h42 : P 42) (h43 : P 43) (h44 : P 44) (h45 : P 45) (h46 : P 46) (h47 : P 47) (h48 : P 48) (h49 : P 49) (h50 : P 50) (h51 : P 51) (h52 : P 52) (h53 : P 53) (h54 : P 54) (h55 : P 55) (h56 : P 56) (h57 : P 57) (h58 : P 58) (h59 : P 59) (h60 : P 60) (h61 : P 61) (h62 : P 62) (h63 : P 63) (h64 : P 64) (h65 : P 65) (h66 : P 66) (h67 : P 67) (h68 : P 68) (h69 : P 69) (h70 : P 70) (h71 : P 71) (h72 : P 72) (h73 : P 73) (h74 : P 74) (h75 : P 75) (h76 : P 76) (h77 : P 77) (h78 : P 78) (h79 : P 79) (h80 : P 80) (h81 : P 81) (h82 : P 82) (h83 : P 83) (h84 : P 84) (h85 : P 85) (h86 : P 86) : ∀ i, i < 87 → P i := by
 intro i hi
 rcases (by omega : i = 0 ∨ i = 1 ∨ i = 2 ∨ i = 3 ∨ i = 4 ∨ i = 5 ∨ i = 6 ∨ i = 7 ∨ i = 8 ∨ i = 9 ∨ i = 10 ∨ i = 11 ∨ i = 12 ∨ i = 13 ∨ i = 14 ∨ i = 15 ∨ i = 16 ∨ i = 17 ∨ i = 18 ∨ i = 19 ∨ i = 20 ∨ i = 21 ∨ i = 22 ∨ i = 23 ∨ i = 24 ∨ i = 25 ∨ i = 26 ∨ i = 27 ∨ i = 28 ∨ i = 29 ∨ i = 30 ∨ i = 31 ∨ i = 32 ∨ i = 33 ∨ i = 34 ∨ i = 35 ∨ i = 36 ∨ i = 37 ∨ i = 38 ∨ i = 39 ∨ i = 40 ∨ i = 41 ∨ i = 42 ∨ i = 43 ∨ i = 44 ∨ i = 45 ∨ i = 46 ∨ i = 47 ∨ i = 48 ∨ i = 49 ∨ i = 50 ∨ i = 51 ∨ i = 52 ∨ i = 53 ∨ i = 54 ∨ i = 55 ∨ i = 56 ∨ i = 57 ∨ i = 58 ∨ i = 59 ∨ i = 60 ∨ i = 61 ∨ i = 62 ∨ i = 63 ∨ i = 64 ∨ i = 65 ∨ i = 66 ∨ i = 67 ∨ i = 68 ∨ i = 69 ∨ i = 70 ∨ i = 71 ∨ i = 72 ∨ i = 73 ∨ i = 74 ∨ i = 75 ∨ i = 76 ∨ i = 77 ∨ i = 78 ∨ i = 79 ∨ i = 80 ∨ i = 81 ∨ i = 82 ∨ i = 83 ∨ i = 84 ∨ i = 85 ∨ i = 86) with rfl | rfl | rfl | rfl | rfl | rfl | rfl | rfl | rfl | rfl | rfl | rfl | rfl | rfl | rfl | rfl | rfl | rfl | rfl | rfl | rfl | rfl | rfl | rfl | rfl | rfl | rfl | rfl | rfl | rfl | rfl | rfl | rfl | rfl | rfl | rfl | rfl | rfl | rfl | rfl | rfl | rfl | rfl | rfl | rfl | rfl | rfl | rfl | rfl | rfl | rfl | rfl | rfl | rfl | rfl | rfl | rfl | rfl | rfl | rfl | rfl | rfl | rfl | rfl | rfl | rfl | rfl | rfl | rfl | rfl | rfl | rfl | rfl | rfl | rfl | rfl | rfl | rfl | rfl | rfl | rfl | rfl | rfl | rfl | rfl | rfl | rfl
 all_goals assumption
theorem head (w : World) : Calls Tryz.prog 23 #[] w fun e w' => e = .returned (.bool true) ∧ Below w.heap.size w w' := by
 have hu23 := Tryz.underlying23
 have hu39 := Tryz.underlying59
 have hu113 := Tryz.underlying100
 go_enter Tryz.func23, Tryz.ntmps23
 go_wp2_with fail
 refine (lnew_yes 1 1 w (by decide)).mono ?_
 rintro e w1 ⟨p, b, g, rfl, hb1, hL⟩
 have X := Aside0.mk (HS.new w w1 (by decide) hb1 hL)
 clear hb1 hL
 dsimp only
 go_wp2_with fail
 refine (lof 5 2 9 _).mono ?_
 rintro e w2 ⟨rfl, hb⟩
 replace X := Aside0.mk (X.out.same hb)
 clear hb
 dsimp only
 go_wp2_with fail
 refine (X.out.join 5 2 9 (by decide)).mono ?_
 rintro e w3 ⟨rfl, hS⟩
 rw [show code 1 1 [] ⟨5, ⟨2, 9⟩⟩ = 0 by decide]
 rw [show nsJ 1 1 [] ⟨5, ⟨2, 9⟩⟩ = [m5] by rfl] at hS
 replace X := Aside0.mk hS
 clear hS
 dsimp only
 go_wp2_with fail
 refine (lof 3 1 1 _).mono ?_
 rintro e w4 ⟨rfl, hb⟩
 replace X := Aside0.mk (X.out.same hb)
 clear hb
 dsimp only
 go_wp2_with fail
 refine (X.out.join 3 1 1 (by decide)).mono ?_
 rintro e w5 ⟨rfl, hS⟩
 rw [show code 1 1 [m5] ⟨3, ⟨1, 1⟩⟩ = 0 by decide]
 rw [show nsJ 1 1 [m5] ⟨3, ⟨1, 1⟩⟩ = [m3, m5] by rfl] at hS
 replace X := Aside0.mk hS
 clear hS
 dsimp only
 go_wp2_with fail
 refine (X.out.give 7 2 false (by decide)).mono ?_
 rintro e w6 ⟨va, v1, rfl, hS⟩
 rw [show gcode 1 1 [m3, m5] [] 7 2 = 0 by decide]
 rw [show given 1 1 [m3, m5] [] 0 7 false 2 = [b1, b2] by rfl] at hS
 obtain ⟨A1, c1, e1⟩ := Kd.R_slice (hS.rows _ (List.mem_cons_self ..)).1
 dsimp only [List.length_cons, List.length_nil] at e1
 subst e1
 replace X := Aside0.mk hS
 clear hS
 dsimp only
 go_wp2_with fail
 refine X.out.free.mono ?_
 rintro e w7 ⟨rfl, hb⟩
 rw [show freeN 1 1 [m3, m5] ([] ++ [b1, b2]) = 1 by rfl]
 replace X := Aside0.mk (X.out.same hb)
 clear hb
 dsimp only
 go_wp2_with fail
 refine (X.out.give 8 2 true (by decide)).mono ?_
 rintro e w8 ⟨vb, v2, rfl, hS⟩
 rw [show gcode 1 1 [m3, m5] ([] ++ [b1, b2]) 8 2 = 6 by rfl]
 rw [show given 1 1 [m3, m5] ([] ++ [b1, b2]) (0 + ([b1, b2] : List Bx).length) 8 true 2 = [] by rfl] at hS
 obtain ⟨A2, c2, e1⟩ := Kd.R_slice (hS.rows _ (List.mem_cons_self ..)).1
 dsimp only [List.length_cons, List.length_nil] at e1
 subst e1
 replace X := Aside0.mk hS
 clear hS
 dsimp only
 go_wp2_with fail
 refine (X.out.give 8 1 true (by decide)).mono ?_
 rintro e w9 ⟨vd, v3, rfl, hS⟩
 obtain ⟨bx, hbx⟩ : ∃ bx, (([] : List Bx) ++ [b1, b2] ++ []) = bx := ⟨_, rfl⟩
 rw [show gcode 1 1 [m3, m5] ([] ++ [b1, b2] ++ []) 8 1 = 0 by rfl]
 rw [show given 1 1 [m3, m5] ([] ++ [b1, b2] ++ []) (0 + ([b1, b2] : List Bx).length + ([] : List Bx).length) 8 true 1 = [b3] by rfl] at hS
 replace hS : HS w w9 p b g 1 1 [m3, m5] v3 [b1, b2, b3] 3 _ := hS
 obtain ⟨A3, c3, e1⟩ := Kd.R_slice (hS.rows _ (List.mem_cons_self ..)).1
 dsimp only [List.length_cons, List.length_nil] at e1
 subst e1
 replace X := Aside0.mk hS
 clear hS hbx bx
 dsimp only
 go_wp2_with fail
 refine (X.out.room 5 (by decide)).mono ?_
 rintro e w10 ⟨rfl, hb⟩
 rw [show roomN 1 1 [m3, m5] [b1, b2, b3] 5 = 0 by rfl]
 replace X := Aside0.mk (X.out.same hb)
 clear hb
 dsimp only
 go_wp2_with fail
 refine (X.out.take 7 1 false).mono ?_
 rintro e w11 ⟨vi, v4, rfl, hS⟩
 rw [show tcode [b1, b2, b3] 7 false 1 = 0 by rfl]
 rw [show taken [b1, b2, b3] 7 false 1 = [b2] by rfl] at hS
 rw [show leftN [b1, b2, b3] [b2] = [b1, b3] by rfl] at hS
 obtain ⟨A4, c4, e1⟩ := Kd.R_slice (hS.rows _ (List.mem_cons_self ..)).1
 dsimp only [List.length_cons, List.length_nil] at e1
 subst e1
 replace X := Aside0.mk hS
 clear hS
 dsimp only
 go_wp2_with fail
 refine (X.out.lose 5 (by decide)).mono ?_
 rintro e w12 ⟨vk, v5, rfl, hS⟩
 rw [show (lost [m3, m5] 5).2 = 0 by rfl]
 rw [show onN [b1, b3] 5 = [b3] by rfl, show offN [b1, b3] 5 = [b1] by rfl, show less [m3, m5] 5 = [m3] by rfl] at hS
 obtain ⟨A5, c5, e1⟩ := Kd.R_slice (hS.rows _ (List.mem_cons_self ..)).1
 dsimp only [List.length_cons, List.length_nil] at e1
 subst e1
 replace X := Aside0.mk hS
 clear hS
 dsimp only
 go_wp2_with fail
 refine (X.out.take 7 2 false).mono ?_
 rintro e w13 ⟨vm, v6, rfl, hS⟩
 rw [show tcode [b1] 7 false 2 = 7 by rfl]
 rw [show taken [b1] 7 false 2 = [] by rfl, left_nil] at hS
 obtain ⟨A6, c6, e1⟩ := Kd.R_slice (hS.rows _ (List.mem_cons_self ..)).1
 dsimp only [List.length_cons, List.length_nil] at e1
 subst e1
 replace X := Aside0.mk hS
 clear hS
 dsimp only
 go_wp2_with fail
 refine (X.out.give 0 1 false (by decide)).mono ?_
 rintro e w14 ⟨vn, v7, rfl, hS⟩
 rw [show gcode 1 1 [m3] [b1] 0 1 = 2 by rfl]
 rw [show given 1 1 [m3] [b1] 3 0 false 1 = [] by rfl, List.append_nil] at hS
 obtain ⟨A7, c7, e1⟩ := Kd.R_slice (hS.rows _ (List.mem_cons_self ..)).1
 dsimp only [List.length_cons, List.length_nil] at e1
 subst e1
 replace X := Aside0.mk hS
 clear hS
 dsimp only
 go_upto_region 14 with (fail)
 have R4 : RB w14 w.heap.size (.slice A4 1 c4) [b2] := (X.out.rows (.slice A4 1 c4, [b2]) (by simp)).1
 have R5 : RB w14 w.heap.size (.slice A5 1 c5) [b3] := (X.out.rows (.slice A5 1 c5, [b3]) (by simp)).1
 have CR : Aside0 (RB w14 w.heap.size (.slice A1 2 c1) [b1, b2]) := ⟨(X.out.rows (.slice A1 2 c1, [b1, b2]) (by simp)).1⟩
 have DR : Aside0 (RB w14 w.heap.size (.slice A3 1 c3) [b3]) := ⟨(X.out.rows (.slice A3 1 c3, [b3]) (by simp)).1⟩
 obtain ⟨a4, rfl, i0, _⟩ := PLedLib.at_T100 (Kd.R_reads' R4).2.2 0 (by decide) (by decide)
 obtain ⟨a5, rfl, j0, _⟩ := PLedLib.at_T100 (Kd.R_reads' R5).2.2 0 (by decide) (by decide)
 have add0 : ∀ a : Addr, a.add ((0 : Int).toNat * 4) = a := fun a => by cases a; rfl
 rw [add0] at i0 j0
 have IJ : Aside0 (w14.cell? a4 = some (.int .u32 2) ∧ w14.cell? a5 = some (.int .u32 3)) := ⟨i0, j0⟩
 have CT : Aside0 (∀ w', Below w14.heap.size w14 w' → Kd.C PLedLib.k100 w' A1 1 [b1]) := ⟨fun w' h => Kd.C_take (m := 1) (Kd.C_below (Kd.R_reads' CR.out).2.2 h) (show 1 ≤ [b1, b2].length by decide)⟩
 have LC : Aside0 (1 ≤ c1) := ⟨Nat.le_trans (show 1 ≤ 2 by decide) (Kd.R_reads' CR.out).2.1⟩
 clear R4 R5 add0
 clear i0 j0
 obtain ⟨ii, hii, _, hsz, _⟩ := info_parts PLedLib.info100
 have hcut := cut_to (P := Tryz.prog) 34 100 .i64 Tryz.underlying34 hii A1 2 c1 1 (by decide) (by decide) (Kd.R_reads' CR.out).2.1
 simp only [Int.toNat_one] at hcut
 clear hii hsz
 simp only [List.append_eq, List.cons_append, List.nil_append]
 refine XInv.region_tab [] [[], [0], [1], [2], [3, 2], [2, 4], [5, 2], [6], [6], [6], [8, 9, 6], [7, 10, 6, 6], [6, 11], [12, 11], [13], [14, 13], [13, 15], [16, 13], [17], [18, 17], [17, 19], [20, 17], [21], [22, 21], [21, 23], [24, 21], [25], [25], [27, 25], [26, 28, 25, 25], [25, 29], [30, 29], [31], [32, 31], [31, 33], [34, 31], [35], [36, 35], [35, 37], [38, 35], [39], [40, 39], [41, 39], [39, 42], [43, 39], [44], [45, 44], [46, 44], [47, 44], [48, 44], [44, 49], [50, 44], [51], [52, 51], [51, 53], [54, 51], [55], [56, 55], [57, 55], [55, 58], [59, 55], [60], [61, 60], [62, 60], [63, 60], [64, 60], [60, 65], [66, 60], [67], [68, 67], [67, 69], [70, 67], [71], [72, 71, 71], [71], [74, 71], [73, 75, 73, 71], [71, 76], [77, 76], [78], [79, 78], [78, 80], [81, 78], [82], [83, 82], [82, 84], [85, 82, 0, 1, 2, 3, 4, 5, 6, 7, 8, 9, 10, 11, 12, 13, 14, 15, 16, 17, 18, 19, 20, 21, 22, 23, 24, 25, 26, 27, 28, 29, 30, 31, 32, 33, 34, 35, 36, 37, 38, 39, 40, 41, 42, 43, 44, 45, 46, 47, 48, 49, 50, 51, 52, 53, 54, 55, 56, 57, 58, 59, 60, 61, 62, 63, 64, 65, 66, 67, 68, 69, 70, 71, 72, 73, 74, 75, 76, 77, 78, 79, 80, 81, 82, 83, 84, 85]] (fun bq jq => match jq with
   | 0 => .int .i64 0
   | 1 => .bool true
   | 2 => .bool true
   | 3 => .int .i64 0
   | 4 => .bool true
   | 5 => .bool true
   | 6 => .bool true
   | 7 => .slice A1 2 c1
   | 8 => .agg #[.int .u32 1, .int .u32 3, .int .u32 7, .bool false]
   | 9 => .agg #[.int .u32 2, .int .u32 5, .int .u32 7, .bool false]
   | 10 => .slice (some ⟨bq.1, 0, none⟩) 2 2
   | 11 => .bool true
   | 12 => .bool true
   | 13 => .bool true
   | 14 => .int .i64 0
   | 15 => .bool true
   | 16 => .bool true
   | 17 => .bool true
   | 18 => .int .i64 1
   | 19 => .bool true
   | 20 => .bool true
   | 21 => .bool true
   | 22 => .int .i64 6
   | 23 => .bool true
   | 24 => .bool true
   | 25 => .bool true
   | 26 => .slice A3 1 c3
   | 27 => .agg #[.int .u32 3, .int .u32 5, .int .u32 8, .bool true]
   | 28 => .slice (some ⟨bq.2.1, 0, none⟩) 1 1
   | 29 => .bool true
   | 30 => .bool true
   | 31 => .bool true
   | 32 => .int .i64 0
   | 33 => .bool true
   | 34 => .bool true
   | 35 => .bool true
   | 36 => .int .i64 0
   | 37 => .bool true
   | 38 => .bool true
   | 39 => .bool true
   | 40 => .slice (some a4) 1 c4
   | 41 => .int .i64 1
   | 42 => .bool true
   | 43 => .bool true
   | 44 => .bool true
   | 45 => .slice (some a4) 1 c4
   | 46 => .pointer (some a4)
   | 47 => .pointer (some a4)
   | 48 => .int .u32 2
   | 49 => .bool true
   | 50 => .bool true
   | 51 => .bool true
   | 52 => .int .i64 0
   | 53 => .bool true
   | 54 => .bool true
   | 55 => .bool true
   | 56 => .slice (some a5) 1 c5
   | 57 => .int .i64 1
   | 58 => .bool true
   | 59 => .bool true
   | 60 => .bool true
   | 61 => .slice (some a5) 1 c5
   | 62 => .pointer (some a5)
   | 63 => .pointer (some a5)
   | 64 => .int .u32 3
   | 65 => .bool true
   | 66 => .bool true
   | 67 => .bool true
   | 68 => .int .i64 0
   | 69 => .bool true
   | 70 => .bool true
   | 71 => .bool true
   | 72 => .pointer (some ⟨p, 0, none⟩)
   | 73 => .slice bq.2.2.1 1 bq.2.2.2
   | 74 => .slice A1 2 c1
   | 75 => .slice A1 1 c1
   | 76 => .bool true
   | 77 => .bool true
   | 78 => .bool true
   | 79 => .int .i64 7
   | 80 => .bool true
   | 81 => .bool true
   | 82 => .bool true
   | 83 => .int .i64 2
   | 84 => .bool true
   | 85 => .bool true
   | 86 => .bool true
   | _ => undef)
   (fun bq l w' => if l 73 = true then (Below w14.heap.size w14 w' ∧ Kd.C PLedLib.k100 w' bq.2.2.1 1 [b1] ∧ 1 ≤ bq.2.2.2) else if l 28 = true then (Below w14.heap.size w14 w' ∧ Kd.C PLedLib.k100 w' (some ⟨bq.2.1, 0, none⟩) 1 [b3]) else if l 10 = true then (Below w14.heap.size w14 w' ∧ Kd.C PLedLib.k100 w' (some ⟨bq.1, 0, none⟩) 2 [b1, b2]) else Below w14.heap.size w14 w')
   (by kernel_rfl) rfl (by kernel_rfl) (by kernel_rfl) (by kernel_rfl) ⟨((0, 0, none, 0) : Nat × Nat × Option Addr × Nat), (by rw [if_neg (by simp)]; rw [if_neg (by simp)]; rw [if_neg (by simp)]; exact below_drew (Below.refl _ _))⟩ ?_ ?_
 ·refine cs87 _ ?_ ?_ ?_ ?_ ?_ ?_ ?_ ?_ ?_ ?_ ?_ ?_ ?_ ?_ ?_ ?_ ?_ ?_ ?_ ?_ ?_ ?_ ?_ ?_ ?_ ?_ ?_ ?_ ?_ ?_ ?_ ?_ ?_ ?_ ?_ ?_ ?_ ?_ ?_ ?_ ?_ ?_ ?_ ?_ ?_ ?_ ?_ ?_ ?_ ?_ ?_ ?_ ?_ ?_ ?_ ?_ ?_ ?_ ?_ ?_ ?_ ?_ ?_ ?_ ?_ ?_ ?_ ?_ ?_ ?_ ?_ ?_ ?_ ?_ ?_ ?_ ?_ ?_ ?_ ?_ ?_ ?_ ?_ ?_ ?_ ?_ ?_
  all_goals intro hds oi hoi bq lb w' hW hlb hcl hneed hclo
  all_goals simp only [List.getElem?_toArray, List.getElem?_cons_succ, List.getElem?_cons_zero, Option.some.injEq] at hoi
  all_goals subst hoi
  ·refine XInv.yes_tab [] (by kernel_rfl) ?_
   have hs0 := XInv.unreach hclo [6, 2, 1] 10 0 (by kernel_rfl) hlb
   have hs1 := XInv.unreach hclo [25, 21, 17, 13, 11, 6, 2, 1] 28 0 (by kernel_rfl) hlb
   have hs2 := XInv.unreach hclo [71, 67, 60, 55, 51, 44, 39, 35, 31, 29, 25, 21, 17, 13, 11, 6, 2, 1] 73 0 (by kernel_rfl) hlb
   rw [if_neg (by rw [hs2]; decide)] at hW
   rw [if_neg (by rw [hs1]; decide)] at hW
   rw [if_neg (by rw [hs0]; decide)] at hW
   clear hcl hneed hclo
   intro Q2 K2 hK2
   simp only [XInv.puts, XPrint.pw]
   go_simp
   exact hK2.out (.int .i64 0) w' ⟨bq, rfl, fun _ _ _ => rfl, (by rw [if_neg (by simp [XInv.up, hs2])]; rw [if_neg (by simp [XInv.up, hs1])]; rw [if_neg (by simp [XInv.up, hs0])]; exact hW)⟩
  ·refine XInv.yes_tab [(77, 0)] (by kernel_rfl) ?_
   have hs0 := XInv.unreach hclo [6, 2] 10 1 (by kernel_rfl) hlb
   have hs1 := XInv.unreach hclo [25, 21, 17, 13, 11, 6, 2] 28 1 (by kernel_rfl) hlb
   have hs2 := XInv.unreach hclo [71, 67, 60, 55, 51, 44, 39, 35, 31, 29, 25, 21, 17, 13, 11, 6, 2] 73 1 (by kernel_rfl) hlb
   rw [if_neg (by rw [hs2]; decide)] at hW
   rw [if_neg (by rw [hs1]; decide)] at hW
   rw [if_neg (by rw [hs0]; decide)] at hW
   clear hcl hneed hclo
   intro Q2 K2 hK2
   simp only [XInv.puts, XPrint.pw]
   go_simp
   exact hK2.out (.bool true) w' ⟨bq, rfl, fun _ _ _ => rfl, (by rw [if_neg (by simp [XInv.up, hs2])]; rw [if_neg (by simp [XInv.up, hs1])]; rw [if_neg (by simp [XInv.up, hs0])]; exact hW)⟩
  ·refine XInv.yes_tab [(78, 1)] (by kernel_rfl) ?_
   have hs0 := XInv.unreach hclo [6] 10 2 (by kernel_rfl) hlb
   have hs1 := XInv.unreach hclo [25, 21, 17, 13, 11, 6] 28 2 (by kernel_rfl) hlb
   have hs2 := XInv.unreach hclo [71, 67, 60, 55, 51, 44, 39, 35, 31, 29, 25, 21, 17, 13, 11, 6] 73 2 (by kernel_rfl) hlb
   rw [if_neg (by rw [hs2]; decide)] at hW
   rw [if_neg (by rw [hs1]; decide)] at hW
   rw [if_neg (by rw [hs0]; decide)] at hW
   clear hcl hneed hclo
   intro Q2 K2 hK2
   simp only [XInv.puts, XPrint.pw]
   go_simp
   exact hK2.out (.bool true) w' ⟨bq, rfl, fun _ _ _ => rfl, (by rw [if_neg (by simp [XInv.up, hs2])]; rw [if_neg (by simp [XInv.up, hs1])]; rw [if_neg (by simp [XInv.up, hs0])]; exact hW)⟩
  ·refine XInv.yes_tab [(79, 2)] (by kernel_rfl) ?_
   have hs0 := XInv.unreach hclo [6, 5, 4] 10 3 (by kernel_rfl) hlb
   have hs1 := XInv.unreach hclo [25, 21, 17, 13, 11, 6, 5, 4] 28 3 (by kernel_rfl) hlb
   have hs2 := XInv.unreach hclo [71, 67, 60, 55, 51, 44, 39, 35, 31, 29, 25, 21, 17, 13, 11, 6, 5, 4] 73 3 (by kernel_rfl) hlb
   rw [if_neg (by rw [hs2]; decide)] at hW
   rw [if_neg (by rw [hs1]; decide)] at hW
   rw [if_neg (by rw [hs0]; decide)] at hW
   clear hcl hneed hclo
   intro Q2 K2 hK2
   simp only [XInv.puts, XPrint.pw]
   go_simp
   exact hK2.out (.int .i64 0) w' ⟨bq, rfl, fun _ _ _ => rfl, (by rw [if_neg (by simp [XInv.up, hs2])]; rw [if_neg (by simp [XInv.up, hs1])]; rw [if_neg (by simp [XInv.up, hs0])]; exact hW)⟩
  ·refine XInv.yes_tab [(80, 3), (79, 2)] (by kernel_rfl) ?_
   have hs0 := XInv.unreach hclo [6, 5] 10 4 (by kernel_rfl) hlb
   have hs1 := XInv.unreach hclo [25, 21, 17, 13, 11, 6, 5] 28 4 (by kernel_rfl) hlb
   have hs2 := XInv.unreach hclo [71, 67, 60, 55, 51, 44, 39, 35, 31, 29, 25, 21, 17, 13, 11, 6, 5] 73 4 (by kernel_rfl) hlb
   rw [if_neg (by rw [hs2]; decide)] at hW
   rw [if_neg (by rw [hs1]; decide)] at hW
   rw [if_neg (by rw [hs0]; decide)] at hW
   clear hcl hneed hclo
   intro Q2 K2 hK2
   simp only [XInv.puts, XPrint.pw]
   go_simp
   exact hK2.out (.bool true) w' ⟨bq, rfl, fun _ _ _ => rfl, (by rw [if_neg (by simp [XInv.up, hs2])]; rw [if_neg (by simp [XInv.up, hs1])]; rw [if_neg (by simp [XInv.up, hs0])]; exact hW)⟩
  ·refine XInv.yes_tab [(81, 4), (79, 2)] (by kernel_rfl) ?_
   have hs0 := XInv.unreach hclo [6] 10 5 (by kernel_rfl) hlb
   have hs1 := XInv.unreach hclo [25, 21, 17, 13, 11, 6] 28 5 (by kernel_rfl) hlb
   have hs2 := XInv.unreach hclo [71, 67, 60, 55, 51, 44, 39, 35, 31, 29, 25, 21, 17, 13, 11, 6] 73 5 (by kernel_rfl) hlb
   rw [if_neg (by rw [hs2]; decide)] at hW
   rw [if_neg (by rw [hs1]; decide)] at hW
   rw [if_neg (by rw [hs0]; decide)] at hW
   clear hcl hneed hclo
   intro Q2 K2 hK2
   simp only [XInv.puts, XPrint.pw]
   go_simp
   exact hK2.out (.bool true) w' ⟨bq, rfl, fun _ _ _ => rfl, (by rw [if_neg (by simp [XInv.up, hs2])]; rw [if_neg (by simp [XInv.up, hs1])]; rw [if_neg (by simp [XInv.up, hs0])]; exact hW)⟩
  ·refine XInv.yes_tab [(82, 5), (79, 2)] (by kernel_rfl) ?_
   have hs0 := hcl 10 (by decide) (by kernel_rfl)
   have hs1 := XInv.unreach hclo [25, 21, 17, 13, 11] 28 6 (by kernel_rfl) hlb
   have hs2 := XInv.unreach hclo [71, 67, 60, 55, 51, 44, 39, 35, 31, 29, 25, 21, 17, 13, 11] 73 6 (by kernel_rfl) hlb
   rw [if_neg (by rw [hs2]; decide)] at hW
   rw [if_neg (by rw [hs1]; decide)] at hW
   rw [if_neg (by rw [hs0]; decide)] at hW
   clear hcl hneed hclo
   intro Q2 K2 hK2
   simp only [XInv.puts, XPrint.pw]
   go_simp
   exact hK2.out (.bool true) w' ⟨bq, rfl, fun _ _ _ => rfl, (by rw [if_neg (by simp [XInv.up, hs2])]; rw [if_neg (by simp [XInv.up, hs1])]; rw [if_neg (by simp [XInv.up, hs0])]; exact hW)⟩
  ·refine XInv.yes_tab [(83, 6)] (by kernel_rfl) ?_
   have hs1 := XInv.unreach hclo [25, 21, 17, 13, 11] 28 7 (by kernel_rfl) hlb
   have hs2 := XInv.unreach hclo [71, 67, 60, 55, 51, 44, 39, 35, 31, 29, 25, 21, 17, 13, 11] 73 7 (by kernel_rfl) hlb
   cases hs0 : lb 10
   case false =>
    rw [if_neg (by rw [hs2]; decide)] at hW
    rw [if_neg (by rw [hs1]; decide)] at hW
    rw [if_neg (by rw [hs0]; decide)] at hW
    clear hcl hneed hclo
    intro Q2 K2 hK2
    simp only [XInv.puts, XPrint.pw]
    go_simp
    exact hK2.out (.slice A1 2 c1) w' ⟨bq, rfl, fun _ _ _ => rfl, (by rw [if_neg (by simp [XInv.up, hs2])]; rw [if_neg (by simp [XInv.up, hs1])]; rw [if_neg (by simp [XInv.up, hs0])]; exact hW)⟩
   case true =>
    rw [if_neg (by rw [hs2]; decide)] at hW
    rw [if_neg (by rw [hs1]; decide)] at hW
    rw [if_pos hs0] at hW
    clear hcl hneed hclo
    intro Q2 K2 hK2
    simp only [XInv.puts, XPrint.pw]
    go_simp
    exact hK2.out (.slice A1 2 c1) w' ⟨bq, rfl, fun _ _ _ => rfl, (by rw [if_neg (by simp [XInv.up, hs2])]; rw [if_neg (by simp [XInv.up, hs1])]; rw [if_pos (by simp [XInv.up, hs0])]; exact hW)⟩
  ·refine XInv.yes_tab [(83, 6)] (by kernel_rfl) ?_
   have hs0 := hcl 10 (by decide) (by kernel_rfl)
   have hs1 := XInv.unreach hclo [25, 21, 17, 13, 11, 10] 28 8 (by kernel_rfl) hlb
   have hs2 := XInv.unreach hclo [71, 67, 60, 55, 51, 44, 39, 35, 31, 29, 25, 21, 17, 13, 11, 10] 73 8 (by kernel_rfl) hlb
   rw [if_neg (by rw [hs2]; decide)] at hW
   rw [if_neg (by rw [hs1]; decide)] at hW
   rw [if_neg (by rw [hs0]; decide)] at hW
   clear hcl hneed hclo
   intro Q2 K2 hK2
   simp only [XInv.puts, XPrint.pw]
   go_simp
   exact hK2.out (.agg #[.int .u32 1, .int .u32 3, .int .u32 7, .bool false]) w' ⟨bq, rfl, fun _ _ _ => rfl, (by rw [if_neg (by simp [XInv.up, hs2])]; rw [if_neg (by simp [XInv.up, hs1])]; rw [if_neg (by simp [XInv.up, hs0])]; exact hW)⟩
  ·refine XInv.yes_tab [(83, 6)] (by kernel_rfl) ?_
   have hs0 := hcl 10 (by decide) (by kernel_rfl)
   have hs1 := XInv.unreach hclo [25, 21, 17, 13, 11, 10] 28 9 (by kernel_rfl) hlb
   have hs2 := XInv.unreach hclo [71, 67, 60, 55, 51, 44, 39, 35, 31, 29, 25, 21, 17, 13, 11, 10] 73 9 (by kernel_rfl) hlb
   rw [if_neg (by rw [hs2]; decide)] at hW
   rw [if_neg (by rw [hs1]; decide)] at hW
   rw [if_neg (by rw [hs0]; decide)] at hW
   clear hcl hneed hclo
   intro Q2 K2 hK2
   simp only [XInv.puts, XPrint.pw]
   go_simp
   exact hK2.out (.agg #[.int .u32 2, .int .u32 5, .int .u32 7, .bool false]) w' ⟨bq, rfl, fun _ _ _ => rfl, (by rw [if_neg (by simp [XInv.up, hs2])]; rw [if_neg (by simp [XInv.up, hs1])]; rw [if_neg (by simp [XInv.up, hs0])]; exact hW)⟩
  ·refine XInv.yes_tab [(86, 9), (85, 8), (83, 6)] (by kernel_rfl) ?_
   have hs0 := hlb
   have hs1 := XInv.unreach hclo [25, 21, 17, 13, 11] 28 10 (by kernel_rfl) hlb
   have hs2 := XInv.unreach hclo [71, 67, 60, 55, 51, 44, 39, 35, 31, 29, 25, 21, 17, 13, 11] 73 10 (by kernel_rfl) hlb
   rw [if_neg (by rw [hs2]; decide)] at hW
   rw [if_neg (by rw [hs1]; decide)] at hW
   rw [if_neg (by rw [hs0]; decide)] at hW
   have hB := hW
   clear hcl hneed
   intro Q2 K2 hK2
   simp only [XInv.puts, XPrint.pw]
   go_simp
   exact hK2.out (.slice (some ⟨w'.heap.size, 0, none⟩) 2 2) _ ⟨(w'.heap.size, bq.2), rfl, (cs87 _ (fun _ => rfl) (fun _ => rfl) (fun _ => rfl) (fun _ => rfl) (fun _ => rfl) (fun _ => rfl) (fun _ => rfl) (fun _ => rfl) (fun _ => rfl) (fun _ => rfl) (fun hlj => absurd (hlb.symm.trans hlj) (by decide)) (fun _ => rfl) (fun _ => rfl) (fun _ => rfl) (fun _ => rfl) (fun _ => rfl) (fun _ => rfl) (fun _ => rfl) (fun _ => rfl) (fun _ => rfl) (fun _ => rfl) (fun _ => rfl) (fun _ => rfl) (fun _ => rfl) (fun _ => rfl) (fun _ => rfl) (fun _ => rfl) (fun _ => rfl) (fun _ => rfl) (fun _ => rfl) (fun _ => rfl) (fun _ => rfl) (fun _ => rfl) (fun _ => rfl) (fun _ => rfl) (fun _ => rfl) (fun _ => rfl) (fun _ => rfl) (fun _ => rfl) (fun _ => rfl) (fun _ => rfl) (fun _ => rfl) (fun _ => rfl) (fun _ => rfl) (fun _ => rfl) (fun _ => rfl) (fun _ => rfl) (fun _ => rfl) (fun _ => rfl) (fun _ => rfl) (fun _ => rfl) (fun _ => rfl) (fun _ => rfl) (fun _ => rfl) (fun _ => rfl) (fun _ => rfl) (fun _ => rfl) (fun _ => rfl) (fun _ => rfl) (fun _ => rfl) (fun _ => rfl) (fun _ => rfl) (fun _ => rfl) (fun _ => rfl) (fun _ => rfl) (fun _ => rfl) (fun _ => rfl) (fun _ => rfl) (fun _ => rfl) (fun _ => rfl) (fun _ => rfl) (fun _ => rfl) (fun _ => rfl) (fun _ => rfl) (fun _ => rfl) (fun _ => rfl) (fun _ => rfl) (fun _ => rfl) (fun _ => rfl) (fun _ => rfl) (fun _ => rfl) (fun _ => rfl) (fun _ => rfl) (fun _ => rfl) (fun _ => rfl) (fun _ => rfl) (fun _ => rfl)), (by rw [if_neg (by simp [XInv.up, hs2])]; rw [if_neg (by simp [XInv.up, hs1])]; rw [if_pos (by simp [XInv.up, hs0])]; exact ⟨below_alloc hB _, lit2 w' b1 b2⟩)⟩
  ·refine XInv.yes_tab [(87, 10), (84, 7), (83, 6)] (by kernel_rfl) ?_
   have hs0 := hneed 10 (by kernel_rfl)
   have hs1 := XInv.unreach hclo [25, 21, 17, 13] 28 11 (by kernel_rfl) hlb
   have hs2 := XInv.unreach hclo [71, 67, 60, 55, 51, 44, 39, 35, 31, 29, 25, 21, 17, 13] 73 11 (by kernel_rfl) hlb
   rw [if_neg (by rw [hs2]; decide)] at hW
   rw [if_neg (by rw [hs1]; decide)] at hW
   rw [if_pos hs0] at hW
   have hB := hW.1
   clear hcl hneed
   intro Q2 K2 hK2
   simp only [XInv.puts, XPrint.pw]
   go_simp
   go_at_call 29
   (with_reducible refine (dsame [b1, b2] _ _ 2 _ _ _ (Kd.C_below (Kd.R_reads' CR.out).2.2 hB) hW.2 rfl (by decide)).mono ?_)
   rintro e wz ⟨rfl, hb⟩
   exact hK2.out (.bool true) wz ⟨bq, rfl, fun _ _ _ => rfl, (by rw [if_neg (by simp [XInv.up, hs2])]; rw [if_neg (by simp [XInv.up, hs1])]; rw [if_pos (by simp [XInv.up, hs0])]; exact ⟨below_step hB hb, Kd.C_below hW.2 hb⟩)⟩
  ·refine XInv.yes_tab [(88, 11), (83, 6)] (by kernel_rfl) ?_
   have hs0 := (XInv.reach hclo [] 11 10 (by kernel_rfl) (hneed 11 (by kernel_rfl)))
   have hs1 := XInv.unreach hclo [25, 21, 17, 13] 28 12 (by kernel_rfl) hlb
   have hs2 := XInv.unreach hclo [71, 67, 60, 55, 51, 44, 39, 35, 31, 29, 25, 21, 17, 13] 73 12 (by kernel_rfl) hlb
   rw [if_neg (by rw [hs2]; decide)] at hW
   rw [if_neg (by rw [hs1]; decide)] at hW
   rw [if_pos hs0] at hW
   clear hcl hneed hclo
   intro Q2 K2 hK2
   simp only [XInv.puts, XPrint.pw]
   go_simp
   exact hK2.out (.bool true) w' ⟨bq, rfl, fun _ _ _ => rfl, (by rw [if_neg (by simp [XInv.up, hs2])]; rw [if_neg (by simp [XInv.up, hs1])]; rw [if_pos (by simp [XInv.up, hs0])]; exact hW)⟩
  ·refine XInv.yes_tab [(89, 12), (88, 11)] (by kernel_rfl) ?_
   have hs0 := (XInv.reach hclo [] 11 10 (by kernel_rfl) (hneed 11 (by kernel_rfl)))
   have hs1 := XInv.unreach hclo [25, 21, 17] 28 13 (by kernel_rfl) hlb
   have hs2 := XInv.unreach hclo [71, 67, 60, 55, 51, 44, 39, 35, 31, 29, 25, 21, 17] 73 13 (by kernel_rfl) hlb
   rw [if_neg (by rw [hs2]; decide)] at hW
   rw [if_neg (by rw [hs1]; decide)] at hW
   rw [if_pos hs0] at hW
   clear hcl hneed hclo
   intro Q2 K2 hK2
   simp only [XInv.puts, XPrint.pw]
   go_simp
   exact hK2.out (.bool true) w' ⟨bq, rfl, fun _ _ _ => rfl, (by rw [if_neg (by simp [XInv.up, hs2])]; rw [if_neg (by simp [XInv.up, hs1])]; rw [if_pos (by simp [XInv.up, hs0])]; exact hW)⟩
  ·refine XInv.yes_tab [(90, 13)] (by kernel_rfl) ?_
   have hs0 := (XInv.reach hclo [11] 13 10 (by kernel_rfl) (hneed 13 (by kernel_rfl)))
   have hs1 := XInv.unreach hclo [25, 21, 17, 16, 15] 28 14 (by kernel_rfl) hlb
   have hs2 := XInv.unreach hclo [71, 67, 60, 55, 51, 44, 39, 35, 31, 29, 25, 21, 17, 16, 15] 73 14 (by kernel_rfl) hlb
   rw [if_neg (by rw [hs2]; decide)] at hW
   rw [if_neg (by rw [hs1]; decide)] at hW
   rw [if_pos hs0] at hW
   clear hcl hneed hclo
   intro Q2 K2 hK2
   simp only [XInv.puts, XPrint.pw]
   go_simp
   exact hK2.out (.int .i64 0) w' ⟨bq, rfl, fun _ _ _ => rfl, (by rw [if_neg (by simp [XInv.up, hs2])]; rw [if_neg (by simp [XInv.up, hs1])]; rw [if_pos (by simp [XInv.up, hs0])]; exact hW)⟩
  ·refine XInv.yes_tab [(91, 14), (90, 13)] (by kernel_rfl) ?_
   have hs0 := (XInv.reach hclo [11] 13 10 (by kernel_rfl) (hneed 13 (by kernel_rfl)))
   have hs1 := XInv.unreach hclo [25, 21, 17, 16] 28 15 (by kernel_rfl) hlb
   have hs2 := XInv.unreach hclo [71, 67, 60, 55, 51, 44, 39, 35, 31, 29, 25, 21, 17, 16] 73 15 (by kernel_rfl) hlb
   rw [if_neg (by rw [hs2]; decide)] at hW
   rw [if_neg (by rw [hs1]; decide)] at hW
   rw [if_pos hs0] at hW
   clear hcl hneed hclo
   intro Q2 K2 hK2
   simp only [XInv.puts, XPrint.pw]
   go_simp
   exact hK2.out (.bool true) w' ⟨bq, rfl, fun _ _ _ => rfl, (by rw [if_neg (by simp [XInv.up, hs2])]; rw [if_neg (by simp [XInv.up, hs1])]; rw [if_pos (by simp [XInv.up, hs0])]; exact hW)⟩
  ·refine XInv.yes_tab [(92, 15), (90, 13)] (by kernel_rfl) ?_
   have hs0 := (XInv.reach hclo [11] 13 10 (by kernel_rfl) (hneed 13 (by kernel_rfl)))
   have hs1 := XInv.unreach hclo [25, 21, 17] 28 16 (by kernel_rfl) hlb
   have hs2 := XInv.unreach hclo [71, 67, 60, 55, 51, 44, 39, 35, 31, 29, 25, 21, 17] 73 16 (by kernel_rfl) hlb
   rw [if_neg (by rw [hs2]; decide)] at hW
   rw [if_neg (by rw [hs1]; decide)] at hW
   rw [if_pos hs0] at hW
   clear hcl hneed hclo
   intro Q2 K2 hK2
   simp only [XInv.puts, XPrint.pw]
   go_simp
   exact hK2.out (.bool true) w' ⟨bq, rfl, fun _ _ _ => rfl, (by rw [if_neg (by simp [XInv.up, hs2])]; rw [if_neg (by simp [XInv.up, hs1])]; rw [if_pos (by simp [XInv.up, hs0])]; exact hW)⟩
  ·refine XInv.yes_tab [(93, 16), (90, 13)] (by kernel_rfl) ?_
   have hs0 := (XInv.reach hclo [11] 13 10 (by kernel_rfl) (hneed 13 (by kernel_rfl)))
   have hs1 := XInv.unreach hclo [25, 21] 28 17 (by kernel_rfl) hlb
   have hs2 := XInv.unreach hclo [71, 67, 60, 55, 51, 44, 39, 35, 31, 29, 25, 21] 73 17 (by kernel_rfl) hlb
   rw [if_neg (by rw [hs2]; decide)] at hW
   rw [if_neg (by rw [hs1]; decide)] at hW
   rw [if_pos hs0] at hW
   clear hcl hneed hclo
   intro Q2 K2 hK2
   simp only [XInv.puts, XPrint.pw]
   go_simp
   exact hK2.out (.bool true) w' ⟨bq, rfl, fun _ _ _ => rfl, (by rw [if_neg (by simp [XInv.up, hs2])]; rw [if_neg (by simp [XInv.up, hs1])]; rw [if_pos (by simp [XInv.up, hs0])]; exact hW)⟩
  ·refine XInv.yes_tab [(94, 17)] (by kernel_rfl) ?_
   have hs0 := (XInv.reach hclo [13, 11] 17 10 (by kernel_rfl) (hneed 17 (by kernel_rfl)))
   have hs1 := XInv.unreach hclo [25, 21, 20, 19] 28 18 (by kernel_rfl) hlb
   have hs2 := XInv.unreach hclo [71, 67, 60, 55, 51, 44, 39, 35, 31, 29, 25, 21, 20, 19] 73 18 (by kernel_rfl) hlb
   rw [if_neg (by rw [hs2]; decide)] at hW
   rw [if_neg (by rw [hs1]; decide)] at hW
   rw [if_pos hs0] at hW
   clear hcl hneed hclo
   intro Q2 K2 hK2
   simp only [XInv.puts, XPrint.pw]
   go_simp
   exact hK2.out (.int .i64 1) w' ⟨bq, rfl, fun _ _ _ => rfl, (by rw [if_neg (by simp [XInv.up, hs2])]; rw [if_neg (by simp [XInv.up, hs1])]; rw [if_pos (by simp [XInv.up, hs0])]; exact hW)⟩
  ·refine XInv.yes_tab [(95, 18), (94, 17)] (by kernel_rfl) ?_
   have hs0 := (XInv.reach hclo [13, 11] 17 10 (by kernel_rfl) (hneed 17 (by kernel_rfl)))
   have hs1 := XInv.unreach hclo [25, 21, 20] 28 19 (by kernel_rfl) hlb
   have hs2 := XInv.unreach hclo [71, 67, 60, 55, 51, 44, 39, 35, 31, 29, 25, 21, 20] 73 19 (by kernel_rfl) hlb
   rw [if_neg (by rw [hs2]; decide)] at hW
   rw [if_neg (by rw [hs1]; decide)] at hW
   rw [if_pos hs0] at hW
   clear hcl hneed hclo
   intro Q2 K2 hK2
   simp only [XInv.puts, XPrint.pw]
   go_simp
   exact hK2.out (.bool true) w' ⟨bq, rfl, fun _ _ _ => rfl, (by rw [if_neg (by simp [XInv.up, hs2])]; rw [if_neg (by simp [XInv.up, hs1])]; rw [if_pos (by simp [XInv.up, hs0])]; exact hW)⟩
  ·refine XInv.yes_tab [(96, 19), (94, 17)] (by kernel_rfl) ?_
   have hs0 := (XInv.reach hclo [13, 11] 17 10 (by kernel_rfl) (hneed 17 (by kernel_rfl)))
   have hs1 := XInv.unreach hclo [25, 21] 28 20 (by kernel_rfl) hlb
   have hs2 := XInv.unreach hclo [71, 67, 60, 55, 51, 44, 39, 35, 31, 29, 25, 21] 73 20 (by kernel_rfl) hlb
   rw [if_neg (by rw [hs2]; decide)] at hW
   rw [if_neg (by rw [hs1]; decide)] at hW
   rw [if_pos hs0] at hW
   clear hcl hneed hclo
   intro Q2 K2 hK2
   simp only [XInv.puts, XPrint.pw]
   go_simp
   exact hK2.out (.bool true) w' ⟨bq, rfl, fun _ _ _ => rfl, (by rw [if_neg (by simp [XInv.up, hs2])]; rw [if_neg (by simp [XInv.up, hs1])]; rw [if_pos (by simp [XInv.up, hs0])]; exact hW)⟩
  ·refine XInv.yes_tab [(97, 20), (94, 17)] (by kernel_rfl) ?_
   have hs0 := (XInv.reach hclo [13, 11] 17 10 (by kernel_rfl) (hneed 17 (by kernel_rfl)))
   have hs1 := XInv.unreach hclo [25] 28 21 (by kernel_rfl) hlb
   have hs2 := XInv.unreach hclo [71, 67, 60, 55, 51, 44, 39, 35, 31, 29, 25] 73 21 (by kernel_rfl) hlb
   rw [if_neg (by rw [hs2]; decide)] at hW
   rw [if_neg (by rw [hs1]; decide)] at hW
   rw [if_pos hs0] at hW
   clear hcl hneed hclo
   intro Q2 K2 hK2
   simp only [XInv.puts, XPrint.pw]
   go_simp
   exact hK2.out (.bool true) w' ⟨bq, rfl, fun _ _ _ => rfl, (by rw [if_neg (by simp [XInv.up, hs2])]; rw [if_neg (by simp [XInv.up, hs1])]; rw [if_pos (by simp [XInv.up, hs0])]; exact hW)⟩
  ·refine XInv.yes_tab [(98, 21)] (by kernel_rfl) ?_
   have hs0 := (XInv.reach hclo [17, 13, 11] 21 10 (by kernel_rfl) (hneed 21 (by kernel_rfl)))
   have hs1 := XInv.unreach hclo [25, 24, 23] 28 22 (by kernel_rfl) hlb
   have hs2 := XInv.unreach hclo [71, 67, 60, 55, 51, 44, 39, 35, 31, 29, 25, 24, 23] 73 22 (by kernel_rfl) hlb
   rw [if_neg (by rw [hs2]; decide)] at hW
   rw [if_neg (by rw [hs1]; decide)] at hW
   rw [if_pos hs0] at hW
   clear hcl hneed hclo
   intro Q2 K2 hK2
   simp only [XInv.puts, XPrint.pw]
   go_simp
   exact hK2.out (.int .i64 6) w' ⟨bq, rfl, fun _ _ _ => rfl, (by rw [if_neg (by simp [XInv.up, hs2])]; rw [if_neg (by simp [XInv.up, hs1])]; rw [if_pos (by simp [XInv.up, hs0])]; exact hW)⟩
  ·refine XInv.yes_tab [(99, 22), (98, 21)] (by kernel_rfl) ?_
   have hs0 := (XInv.reach hclo [17, 13, 11] 21 10 (by kernel_rfl) (hneed 21 (by kernel_rfl)))
   have hs1 := XInv.unreach hclo [25, 24] 28 23 (by kernel_rfl) hlb
   have hs2 := XInv.unreach hclo [71, 67, 60, 55, 51, 44, 39, 35, 31, 29, 25, 24] 73 23 (by kernel_rfl) hlb
   rw [if_neg (by rw [hs2]; decide)] at hW
   rw [if_neg (by rw [hs1]; decide)] at hW
   rw [if_pos hs0] at hW
   clear hcl hneed hclo
   intro Q2 K2 hK2
   simp only [XInv.puts, XPrint.pw]
   go_simp
   exact hK2.out (.bool true) w' ⟨bq, rfl, fun _ _ _ => rfl, (by rw [if_neg (by simp [XInv.up, hs2])]; rw [if_neg (by simp [XInv.up, hs1])]; rw [if_pos (by simp [XInv.up, hs0])]; exact hW)⟩
  ·refine XInv.yes_tab [(100, 23), (98, 21)] (by kernel_rfl) ?_
   have hs0 := (XInv.reach hclo [17, 13, 11] 21 10 (by kernel_rfl) (hneed 21 (by kernel_rfl)))
   have hs1 := XInv.unreach hclo [25] 28 24 (by kernel_rfl) hlb
   have hs2 := XInv.unreach hclo [71, 67, 60, 55, 51, 44, 39, 35, 31, 29, 25] 73 24 (by kernel_rfl) hlb
   rw [if_neg (by rw [hs2]; decide)] at hW
   rw [if_neg (by rw [hs1]; decide)] at hW
   rw [if_pos hs0] at hW
   clear hcl hneed hclo
   intro Q2 K2 hK2
   simp only [XInv.puts, XPrint.pw]
   go_simp
   exact hK2.out (.bool true) w' ⟨bq, rfl, fun _ _ _ => rfl, (by rw [if_neg (by simp [XInv.up, hs2])]; rw [if_neg (by simp [XInv.up, hs1])]; rw [if_pos (by simp [XInv.up, hs0])]; exact hW)⟩
  ·refine XInv.yes_tab [(101, 24), (98, 21)] (by kernel_rfl) ?_
   have hs0 := (XInv.reach hclo [17, 13, 11] 21 10 (by kernel_rfl) (hneed 21 (by kernel_rfl)))
   have hs1 := hcl 28 (by decide) (by kernel_rfl)
   have hs2 := XInv.unreach hclo [71, 67, 60, 55, 51, 44, 39, 35, 31, 29] 73 25 (by kernel_rfl) hlb
   rw [if_neg (by rw [hs2]; decide)] at hW
   rw [if_neg (by rw [hs1]; decide)] at hW
   rw [if_pos hs0] at hW
   clear hcl hneed hclo
   intro Q2 K2 hK2
   simp only [XInv.puts, XPrint.pw]
   go_simp
   exact hK2.out (.bool true) w' ⟨bq, rfl, fun _ _ _ => rfl, (by rw [if_neg (by simp [XInv.up, hs2])]; rw [if_neg (by simp [XInv.up, hs1])]; rw [if_pos (by simp [XInv.up, hs0])]; exact hW)⟩
  ·refine XInv.yes_tab [(102, 25)] (by kernel_rfl) ?_
   have hs0 := (XInv.reach hclo [21, 17, 13, 11] 25 10 (by kernel_rfl) (hneed 25 (by kernel_rfl)))
   have hs2 := XInv.unreach hclo [71, 67, 60, 55, 51, 44, 39, 35, 31, 29] 73 26 (by kernel_rfl) hlb
   cases hs1 : lb 28
   case false =>
    rw [if_neg (by rw [hs2]; decide)] at hW
    rw [if_neg (by rw [hs1]; decide)] at hW
    rw [if_pos hs0] at hW
    clear hcl hneed hclo
    intro Q2 K2 hK2
    simp only [XInv.puts, XPrint.pw]
    go_simp
    exact hK2.out (.slice A3 1 c3) w' ⟨bq, rfl, fun _ _ _ => rfl, (by rw [if_neg (by simp [XInv.up, hs2])]; rw [if_neg (by simp [XInv.up, hs1])]; rw [if_pos (by simp [XInv.up, hs0])]; exact hW)⟩
   case true =>
    rw [if_neg (by rw [hs2]; decide)] at hW
    rw [if_pos hs1] at hW
    clear hcl hneed hclo
    intro Q2 K2 hK2
    simp only [XInv.puts, XPrint.pw]
    go_simp
    exact hK2.out (.slice A3 1 c3) w' ⟨bq, rfl, fun _ _ _ => rfl, (by rw [if_neg (by simp [XInv.up, hs2])]; rw [if_pos (by simp [XInv.up, hs1])]; exact hW)⟩
  ·refine XInv.yes_tab [(102, 25)] (by kernel_rfl) ?_
   have hs0 := (XInv.reach hclo [21, 17, 13, 11] 25 10 (by kernel_rfl) (hneed 25 (by kernel_rfl)))
   have hs1 := hcl 28 (by decide) (by kernel_rfl)
   have hs2 := XInv.unreach hclo [71, 67, 60, 55, 51, 44, 39, 35, 31, 29, 28] 73 27 (by kernel_rfl) hlb
   rw [if_neg (by rw [hs2]; decide)] at hW
   rw [if_neg (by rw [hs1]; decide)] at hW
   rw [if_pos hs0] at hW
   clear hcl hneed hclo
   intro Q2 K2 hK2
   simp only [XInv.puts, XPrint.pw]
   go_simp
   exact hK2.out (.agg #[.int .u32 3, .int .u32 5, .int .u32 8, .bool true]) w' ⟨bq, rfl, fun _ _ _ => rfl, (by rw [if_neg (by simp [XInv.up, hs2])]; rw [if_neg (by simp [XInv.up, hs1])]; rw [if_pos (by simp [XInv.up, hs0])]; exact hW)⟩
  ·refine XInv.yes_tab [(104, 27), (102, 25)] (by kernel_rfl) ?_
   have hs0 := (XInv.reach hclo [21, 17, 13, 11] 25 10 (by kernel_rfl) (hneed 25 (by kernel_rfl)))
   have hs1 := hlb
   have hs2 := XInv.unreach hclo [71, 67, 60, 55, 51, 44, 39, 35, 31, 29] 73 28 (by kernel_rfl) hlb
   rw [if_neg (by rw [hs2]; decide)] at hW
   rw [if_neg (by rw [hs1]; decide)] at hW
   rw [if_pos hs0] at hW
   have hB := hW.1
   clear hcl hneed
   intro Q2 K2 hK2
   simp only [XInv.puts, XPrint.pw]
   go_simp
   exact hK2.out (.slice (some ⟨w'.heap.size, 0, none⟩) 1 1) _ ⟨(bq.1, w'.heap.size, bq.2.2), rfl, (cs87 _ (fun _ => rfl) (fun _ => rfl) (fun _ => rfl) (fun _ => rfl) (fun _ => rfl) (fun _ => rfl) (fun _ => rfl) (fun _ => rfl) (fun _ => rfl) (fun _ => rfl) (fun _ => rfl) (fun _ => rfl) (fun _ => rfl) (fun _ => rfl) (fun _ => rfl) (fun _ => rfl) (fun _ => rfl) (fun _ => rfl) (fun _ => rfl) (fun _ => rfl) (fun _ => rfl) (fun _ => rfl) (fun _ => rfl) (fun _ => rfl) (fun _ => rfl) (fun _ => rfl) (fun _ => rfl) (fun _ => rfl) (fun hlj => absurd (hlb.symm.trans hlj) (by decide)) (fun _ => rfl) (fun _ => rfl) (fun _ => rfl) (fun _ => rfl) (fun _ => rfl) (fun _ => rfl) (fun _ => rfl) (fun _ => rfl) (fun _ => rfl) (fun _ => rfl) (fun _ => rfl) (fun _ => rfl) (fun _ => rfl) (fun _ => rfl) (fun _ => rfl) (fun _ => rfl) (fun _ => rfl) (fun _ => rfl) (fun _ => rfl) (fun _ => rfl) (fun _ => rfl) (fun _ => rfl) (fun _ => rfl) (fun _ => rfl) (fun _ => rfl) (fun _ => rfl) (fun _ => rfl) (fun _ => rfl) (fun _ => rfl) (fun _ => rfl) (fun _ => rfl) (fun _ => rfl) (fun _ => rfl) (fun _ => rfl) (fun _ => rfl) (fun _ => rfl) (fun _ => rfl) (fun _ => rfl) (fun _ => rfl) (fun _ => rfl) (fun _ => rfl) (fun _ => rfl) (fun _ => rfl) (fun _ => rfl) (fun _ => rfl) (fun _ => rfl) (fun _ => rfl) (fun _ => rfl) (fun _ => rfl) (fun _ => rfl) (fun _ => rfl) (fun _ => rfl) (fun _ => rfl) (fun _ => rfl) (fun _ => rfl) (fun _ => rfl) (fun _ => rfl) (fun _ => rfl)), (by rw [if_neg (by simp [XInv.up, hs2])]; rw [if_pos (by simp [XInv.up, hs1])]; exact ⟨below_alloc hB _, lit1 w' b3⟩)⟩
  ·refine XInv.yes_tab [(105, 28), (103, 26), (102, 25)] (by kernel_rfl) ?_
   have hs0 := (XInv.reach hclo [21, 17, 13, 11] 25 10 (by kernel_rfl) (hneed 25 (by kernel_rfl)))
   have hs1 := hneed 28 (by kernel_rfl)
   have hs2 := XInv.unreach hclo [71, 67, 60, 55, 51, 44, 39, 35, 31] 73 29 (by kernel_rfl) hlb
   rw [if_neg (by rw [hs2]; decide)] at hW
   rw [if_pos hs1] at hW
   have hB := hW.1
   clear hcl hneed
   intro Q2 K2 hK2
   simp only [XInv.puts, XPrint.pw]
   go_simp
   go_at_call 29
   (with_reducible refine (dsame [b3] _ _ 1 _ _ _ (Kd.C_below (Kd.R_reads' DR.out).2.2 hB) hW.2 rfl (by decide)).mono ?_)
   rintro e wz ⟨rfl, hb⟩
   exact hK2.out (.bool true) wz ⟨bq, rfl, fun _ _ _ => rfl, (by rw [if_neg (by simp [XInv.up, hs2])]; rw [if_pos (by simp [XInv.up, hs1])]; exact ⟨below_step hB hb, Kd.C_below hW.2 hb⟩)⟩
  ·refine XInv.yes_tab [(106, 29), (102, 25)] (by kernel_rfl) ?_
   have hs0 := (XInv.reach hclo [21, 17, 13, 11] 25 10 (by kernel_rfl) (hneed 25 (by kernel_rfl)))
   have hs1 := (XInv.reach hclo [] 29 28 (by kernel_rfl) (hneed 29 (by kernel_rfl)))
   have hs2 := XInv.unreach hclo [71, 67, 60, 55, 51, 44, 39, 35, 31] 73 30 (by kernel_rfl) hlb
   rw [if_neg (by rw [hs2]; decide)] at hW
   rw [if_pos hs1] at hW
   clear hcl hneed hclo
   intro Q2 K2 hK2
   simp only [XInv.puts, XPrint.pw]
   go_simp
   exact hK2.out (.bool true) w' ⟨bq, rfl, fun _ _ _ => rfl, (by rw [if_neg (by simp [XInv.up, hs2])]; rw [if_pos (by simp [XInv.up, hs1])]; exact hW)⟩
  ·refine XInv.yes_tab [(107, 30), (106, 29)] (by kernel_rfl) ?_
   have hs0 := (XInv.reach hclo [25, 21, 17, 13, 11] 29 10 (by kernel_rfl) (hneed 29 (by kernel_rfl)))
   have hs1 := (XInv.reach hclo [] 29 28 (by kernel_rfl) (hneed 29 (by kernel_rfl)))
   have hs2 := XInv.unreach hclo [71, 67, 60, 55, 51, 44, 39, 35] 73 31 (by kernel_rfl) hlb
   rw [if_neg (by rw [hs2]; decide)] at hW
   rw [if_pos hs1] at hW
   clear hcl hneed hclo
   intro Q2 K2 hK2
   simp only [XInv.puts, XPrint.pw]
   go_simp
   exact hK2.out (.bool true) w' ⟨bq, rfl, fun _ _ _ => rfl, (by rw [if_neg (by simp [XInv.up, hs2])]; rw [if_pos (by simp [XInv.up, hs1])]; exact hW)⟩
  ·refine XInv.yes_tab [(108, 31)] (by kernel_rfl) ?_
   have hs0 := (XInv.reach hclo [29, 25, 21, 17, 13, 11] 31 10 (by kernel_rfl) (hneed 31 (by kernel_rfl)))
   have hs1 := (XInv.reach hclo [29] 31 28 (by kernel_rfl) (hneed 31 (by kernel_rfl)))
   have hs2 := XInv.unreach hclo [71, 67, 60, 55, 51, 44, 39, 35, 34, 33] 73 32 (by kernel_rfl) hlb
   rw [if_neg (by rw [hs2]; decide)] at hW
   rw [if_pos hs1] at hW
   clear hcl hneed hclo
   intro Q2 K2 hK2
   simp only [XInv.puts, XPrint.pw]
   go_simp
   exact hK2.out (.int .i64 0) w' ⟨bq, rfl, fun _ _ _ => rfl, (by rw [if_neg (by simp [XInv.up, hs2])]; rw [if_pos (by simp [XInv.up, hs1])]; exact hW)⟩
  ·refine XInv.yes_tab [(109, 32), (108, 31)] (by kernel_rfl) ?_
   have hs0 := (XInv.reach hclo [29, 25, 21, 17, 13, 11] 31 10 (by kernel_rfl) (hneed 31 (by kernel_rfl)))
   have hs1 := (XInv.reach hclo [29] 31 28 (by kernel_rfl) (hneed 31 (by kernel_rfl)))
   have hs2 := XInv.unreach hclo [71, 67, 60, 55, 51, 44, 39, 35, 34] 73 33 (by kernel_rfl) hlb
   rw [if_neg (by rw [hs2]; decide)] at hW
   rw [if_pos hs1] at hW
   clear hcl hneed hclo
   intro Q2 K2 hK2
   simp only [XInv.puts, XPrint.pw]
   go_simp
   exact hK2.out (.bool true) w' ⟨bq, rfl, fun _ _ _ => rfl, (by rw [if_neg (by simp [XInv.up, hs2])]; rw [if_pos (by simp [XInv.up, hs1])]; exact hW)⟩
  ·refine XInv.yes_tab [(110, 33), (108, 31)] (by kernel_rfl) ?_
   have hs0 := (XInv.reach hclo [29, 25, 21, 17, 13, 11] 31 10 (by kernel_rfl) (hneed 31 (by kernel_rfl)))
   have hs1 := (XInv.reach hclo [29] 31 28 (by kernel_rfl) (hneed 31 (by kernel_rfl)))
   have hs2 := XInv.unreach hclo [71, 67, 60, 55, 51, 44, 39, 35] 73 34 (by kernel_rfl) hlb
   rw [if_neg (by rw [hs2]; decide)] at hW
   rw [if_pos hs1] at hW
   clear hcl hneed hclo
   intro Q2 K2 hK2
   simp only [XInv.puts, XPrint.pw]
   go_simp
   exact hK2.out (.bool true) w' ⟨bq, rfl, fun _ _ _ => rfl, (by rw [if_neg (by simp [XInv.up, hs2])]; rw [if_pos (by simp [XInv.up, hs1])]; exact hW)⟩
  ·refine XInv.yes_tab [(111, 34), (108, 31)] (by kernel_rfl) ?_
   have hs0 := (XInv.reach hclo [29, 25, 21, 17, 13, 11] 31 10 (by kernel_rfl) (hneed 31 (by kernel_rfl)))
   have hs1 := (XInv.reach hclo [29] 31 28 (by kernel_rfl) (hneed 31 (by kernel_rfl)))
   have hs2 := XInv.unreach hclo [71, 67, 60, 55, 51, 44, 39] 73 35 (by kernel_rfl) hlb
   rw [if_neg (by rw [hs2]; decide)] at hW
   rw [if_pos hs1] at hW
   clear hcl hneed hclo
   intro Q2 K2 hK2
   simp only [XInv.puts, XPrint.pw]
   go_simp
   exact hK2.out (.bool true) w' ⟨bq, rfl, fun _ _ _ => rfl, (by rw [if_neg (by simp [XInv.up, hs2])]; rw [if_pos (by simp [XInv.up, hs1])]; exact hW)⟩
  ·refine XInv.yes_tab [(112, 35)] (by kernel_rfl) ?_
   have hs0 := (XInv.reach hclo [31, 29, 25, 21, 17, 13, 11] 35 10 (by kernel_rfl) (hneed 35 (by kernel_rfl)))
   have hs1 := (XInv.reach hclo [31, 29] 35 28 (by kernel_rfl) (hneed 35 (by kernel_rfl)))
   have hs2 := XInv.unreach hclo [71, 67, 60, 55, 51, 44, 39, 38, 37] 73 36 (by kernel_rfl) hlb
   rw [if_neg (by rw [hs2]; decide)] at hW
   rw [if_pos hs1] at hW
   clear hcl hneed hclo
   intro Q2 K2 hK2
   simp only [XInv.puts, XPrint.pw]
   go_simp
   exact hK2.out (.int .i64 0) w' ⟨bq, rfl, fun _ _ _ => rfl, (by rw [if_neg (by simp [XInv.up, hs2])]; rw [if_pos (by simp [XInv.up, hs1])]; exact hW)⟩
  ·refine XInv.yes_tab [(113, 36), (112, 35)] (by kernel_rfl) ?_
   have hs0 := (XInv.reach hclo [31, 29, 25, 21, 17, 13, 11] 35 10 (by kernel_rfl) (hneed 35 (by kernel_rfl)))
   have hs1 := (XInv.reach hclo [31, 29] 35 28 (by kernel_rfl) (hneed 35 (by kernel_rfl)))
   have hs2 := XInv.unreach hclo [71, 67, 60, 55, 51, 44, 39, 38] 73 37 (by kernel_rfl) hlb
   rw [if_neg (by rw [hs2]; decide)] at hW
   rw [if_pos hs1] at hW
   clear hcl hneed hclo
   intro Q2 K2 hK2
   simp only [XInv.puts, XPrint.pw]
   go_simp
   exact hK2.out (.bool true) w' ⟨bq, rfl, fun _ _ _ => rfl, (by rw [if_neg (by simp [XInv.up, hs2])]; rw [if_pos (by simp [XInv.up, hs1])]; exact hW)⟩
  ·refine XInv.yes_tab [(114, 37), (112, 35)] (by kernel_rfl) ?_
   have hs0 := (XInv.reach hclo [31, 29, 25, 21, 17, 13, 11] 35 10 (by kernel_rfl) (hneed 35 (by kernel_rfl)))
   have hs1 := (XInv.reach hclo [31, 29] 35 28 (by kernel_rfl) (hneed 35 (by kernel_rfl)))
   have hs2 := XInv.unreach hclo [71, 67, 60, 55, 51, 44, 39] 73 38 (by kernel_rfl) hlb
   rw [if_neg (by rw [hs2]; decide)] at hW
   rw [if_pos hs1] at hW
   clear hcl hneed hclo
   intro Q2 K2 hK2
   simp only [XInv.puts, XPrint.pw]
   go_simp
   exact hK2.out (.bool true) w' ⟨bq, rfl, fun _ _ _ => rfl, (by rw [if_neg (by simp [XInv.up, hs2])]; rw [if_pos (by simp [XInv.up, hs1])]; exact hW)⟩
  ·refine XInv.yes_tab [(115, 38), (112, 35)] (by kernel_rfl) ?_
   have hs0 := (XInv.reach hclo [31, 29, 25, 21, 17, 13, 11] 35 10 (by kernel_rfl) (hneed 35 (by kernel_rfl)))
   have hs1 := (XInv.reach hclo [31, 29] 35 28 (by kernel_rfl) (hneed 35 (by kernel_rfl)))
   have hs2 := XInv.unreach hclo [71, 67, 60, 55, 51, 44] 73 39 (by kernel_rfl) hlb
   rw [if_neg (by rw [hs2]; decide)] at hW
   rw [if_pos hs1] at hW
   clear hcl hneed hclo
   intro Q2 K2 hK2
   simp only [XInv.puts, XPrint.pw]
   go_simp
   exact hK2.out (.bool true) w' ⟨bq, rfl, fun _ _ _ => rfl, (by rw [if_neg (by simp [XInv.up, hs2])]; rw [if_pos (by simp [XInv.up, hs1])]; exact hW)⟩
  ·refine XInv.yes_tab [(116, 39)] (by kernel_rfl) ?_
   have hs0 := (XInv.reach hclo [35, 31, 29, 25, 21, 17, 13, 11] 39 10 (by kernel_rfl) (hneed 39 (by kernel_rfl)))
   have hs1 := (XInv.reach hclo [35, 31, 29] 39 28 (by kernel_rfl) (hneed 39 (by kernel_rfl)))
   have hs2 := XInv.unreach hclo [71, 67, 60, 55, 51, 44, 43, 42, 41] 73 40 (by kernel_rfl) hlb
   rw [if_neg (by rw [hs2]; decide)] at hW
   rw [if_pos hs1] at hW
   clear hcl hneed hclo
   intro Q2 K2 hK2
   simp only [XInv.puts, XPrint.pw]
   go_simp
   exact hK2.out (.slice (some a4) 1 c4) w' ⟨bq, rfl, fun _ _ _ => rfl, (by rw [if_neg (by simp [XInv.up, hs2])]; rw [if_pos (by simp [XInv.up, hs1])]; exact hW)⟩
  ·refine XInv.yes_tab [(117, 40), (116, 39)] (by kernel_rfl) ?_
   have hs0 := (XInv.reach hclo [35, 31, 29, 25, 21, 17, 13, 11] 39 10 (by kernel_rfl) (hneed 39 (by kernel_rfl)))
   have hs1 := (XInv.reach hclo [35, 31, 29] 39 28 (by kernel_rfl) (hneed 39 (by kernel_rfl)))
   have hs2 := XInv.unreach hclo [71, 67, 60, 55, 51, 44, 43, 42] 73 41 (by kernel_rfl) hlb
   rw [if_neg (by rw [hs2]; decide)] at hW
   rw [if_pos hs1] at hW
   clear hcl hneed hclo
   intro Q2 K2 hK2
   simp only [XInv.puts, XPrint.pw]
   go_simp
   exact hK2.out (.int .i64 1) w' ⟨bq, rfl, fun _ _ _ => rfl, (by rw [if_neg (by simp [XInv.up, hs2])]; rw [if_pos (by simp [XInv.up, hs1])]; exact hW)⟩
  ·refine XInv.yes_tab [(118, 41), (116, 39)] (by kernel_rfl) ?_
   have hs0 := (XInv.reach hclo [35, 31, 29, 25, 21, 17, 13, 11] 39 10 (by kernel_rfl) (hneed 39 (by kernel_rfl)))
   have hs1 := (XInv.reach hclo [35, 31, 29] 39 28 (by kernel_rfl) (hneed 39 (by kernel_rfl)))
   have hs2 := XInv.unreach hclo [71, 67, 60, 55, 51, 44, 43] 73 42 (by kernel_rfl) hlb
   rw [if_neg (by rw [hs2]; decide)] at hW
   rw [if_pos hs1] at hW
   clear hcl hneed hclo
   intro Q2 K2 hK2
   simp only [XInv.puts, XPrint.pw]
   go_simp
   exact hK2.out (.bool true) w' ⟨bq, rfl, fun _ _ _ => rfl, (by rw [if_neg (by simp [XInv.up, hs2])]; rw [if_pos (by simp [XInv.up, hs1])]; exact hW)⟩
  ·refine XInv.yes_tab [(119, 42), (116, 39)] (by kernel_rfl) ?_
   have hs0 := (XInv.reach hclo [35, 31, 29, 25, 21, 17, 13, 11] 39 10 (by kernel_rfl) (hneed 39 (by kernel_rfl)))
   have hs1 := (XInv.reach hclo [35, 31, 29] 39 28 (by kernel_rfl) (hneed 39 (by kernel_rfl)))
   have hs2 := XInv.unreach hclo [71, 67, 60, 55, 51, 44] 73 43 (by kernel_rfl) hlb
   rw [if_neg (by rw [hs2]; decide)] at hW
   rw [if_pos hs1] at hW
   clear hcl hneed hclo
   intro Q2 K2 hK2
   simp only [XInv.puts, XPrint.pw]
   go_simp
   exact hK2.out (.bool true) w' ⟨bq, rfl, fun _ _ _ => rfl, (by rw [if_neg (by simp [XInv.up, hs2])]; rw [if_pos (by simp [XInv.up, hs1])]; exact hW)⟩
  ·refine XInv.yes_tab [(120, 43), (116, 39)] (by kernel_rfl) ?_
   have hs0 := (XInv.reach hclo [35, 31, 29, 25, 21, 17, 13, 11] 39 10 (by kernel_rfl) (hneed 39 (by kernel_rfl)))
   have hs1 := (XInv.reach hclo [35, 31, 29] 39 28 (by kernel_rfl) (hneed 39 (by kernel_rfl)))
   have hs2 := XInv.unreach hclo [71, 67, 60, 55, 51] 73 44 (by kernel_rfl) hlb
   rw [if_neg (by rw [hs2]; decide)] at hW
   rw [if_pos hs1] at hW
   clear hcl hneed hclo
   intro Q2 K2 hK2
   simp only [XInv.puts, XPrint.pw]
   go_simp
   exact hK2.out (.bool true) w' ⟨bq, rfl, fun _ _ _ => rfl, (by rw [if_neg (by simp [XInv.up, hs2])]; rw [if_pos (by simp [XInv.up, hs1])]; exact hW)⟩
  ·refine XInv.yes_tab [(121, 44)] (by kernel_rfl) ?_
   have hs0 := (XInv.reach hclo [39, 35, 31, 29, 25, 21, 17, 13, 11] 44 10 (by kernel_rfl) (hneed 44 (by kernel_rfl)))
   have hs1 := (XInv.reach hclo [39, 35, 31, 29] 44 28 (by kernel_rfl) (hneed 44 (by kernel_rfl)))
   have hs2 := XInv.unreach hclo [71, 67, 60, 55, 51, 50, 49, 48, 47, 46] 73 45 (by kernel_rfl) hlb
   rw [if_neg (by rw [hs2]; decide)] at hW
   rw [if_pos hs1] at hW
   clear hcl hneed hclo
   intro Q2 K2 hK2
   simp only [XInv.puts, XPrint.pw]
   go_simp
   exact hK2.out (.slice (some a4) 1 c4) w' ⟨bq, rfl, fun _ _ _ => rfl, (by rw [if_neg (by simp [XInv.up, hs2])]; rw [if_pos (by simp [XInv.up, hs1])]; exact hW)⟩
  ·refine XInv.yes_tab [(122, 45), (121, 44)] (by kernel_rfl) ?_
   have hs0 := (XInv.reach hclo [39, 35, 31, 29, 25, 21, 17, 13, 11] 44 10 (by kernel_rfl) (hneed 44 (by kernel_rfl)))
   have hs1 := (XInv.reach hclo [39, 35, 31, 29] 44 28 (by kernel_rfl) (hneed 44 (by kernel_rfl)))
   have hs2 := XInv.unreach hclo [71, 67, 60, 55, 51, 50, 49, 48, 47] 73 46 (by kernel_rfl) hlb
   rw [if_neg (by rw [hs2]; decide)] at hW
   rw [if_pos hs1] at hW
   clear hcl hneed hclo
   intro Q2 K2 hK2
   simp only [XInv.puts, XPrint.pw]
   go_simp
   exact hK2.out (.pointer (some a4)) w' ⟨bq, rfl, fun _ _ _ => rfl, (by rw [if_neg (by simp [XInv.up, hs2])]; rw [if_pos (by simp [XInv.up, hs1])]; exact hW)⟩
  ·refine XInv.yes_tab [(123, 46), (121, 44)] (by kernel_rfl) ?_
   have hs0 := (XInv.reach hclo [39, 35, 31, 29, 25, 21, 17, 13, 11] 44 10 (by kernel_rfl) (hneed 44 (by kernel_rfl)))
   have hs1 := (XInv.reach hclo [39, 35, 31, 29] 44 28 (by kernel_rfl) (hneed 44 (by kernel_rfl)))
   have hs2 := XInv.unreach hclo [71, 67, 60, 55, 51, 50, 49, 48] 73 47 (by kernel_rfl) hlb
   rw [if_neg (by rw [hs2]; decide)] at hW
   rw [if_pos hs1] at hW
   clear hcl hneed hclo
   intro Q2 K2 hK2
   simp only [XInv.puts, XPrint.pw]
   go_simp
   exact hK2.out (.pointer (some a4)) w' ⟨bq, rfl, fun _ _ _ => rfl, (by rw [if_neg (by simp [XInv.up, hs2])]; rw [if_pos (by simp [XInv.up, hs1])]; exact hW)⟩
  ·refine XInv.yes_tab [(124, 47), (121, 44)] (by kernel_rfl) ?_
   have hs0 := (XInv.reach hclo [39, 35, 31, 29, 25, 21, 17, 13, 11] 44 10 (by kernel_rfl) (hneed 44 (by kernel_rfl)))
   have hs1 := (XInv.reach hclo [39, 35, 31, 29] 44 28 (by kernel_rfl) (hneed 44 (by kernel_rfl)))
   have hs2 := XInv.unreach hclo [71, 67, 60, 55, 51, 50, 49] 73 48 (by kernel_rfl) hlb
   rw [if_neg (by rw [hs2]; decide)] at hW
   rw [if_pos hs1] at hW
   have hB := hW.1
   clear hcl hneed
   intro Q2 K2 hK2
   simp only [XInv.puts, XPrint.pw]
   have i0 := pw_cell_below hB IJ.out.1
   have j0 := pw_cell_below hB IJ.out.2
   go_simp
   exact hK2.out (.int .u32 2) w' ⟨bq, rfl, fun _ _ _ => rfl, (by rw [if_neg (by simp [XInv.up, hs2])]; rw [if_pos (by simp [XInv.up, hs1])]; exact hW)⟩
  ·refine XInv.yes_tab [(125, 48), (121, 44)] (by kernel_rfl) ?_
   have hs0 := (XInv.reach hclo [39, 35, 31, 29, 25, 21, 17, 13, 11] 44 10 (by kernel_rfl) (hneed 44 (by kernel_rfl)))
   have hs1 := (XInv.reach hclo [39, 35, 31, 29] 44 28 (by kernel_rfl) (hneed 44 (by kernel_rfl)))
   have hs2 := XInv.unreach hclo [71, 67, 60, 55, 51, 50] 73 49 (by kernel_rfl) hlb
   rw [if_neg (by rw [hs2]; decide)] at hW
   rw [if_pos hs1] at hW
   clear hcl hneed hclo
   intro Q2 K2 hK2
   simp only [XInv.puts, XPrint.pw]
   go_simp
   exact hK2.out (.bool true) w' ⟨bq, rfl, fun _ _ _ => rfl, (by rw [if_neg (by simp [XInv.up, hs2])]; rw [if_pos (by simp [XInv.up, hs1])]; exact hW)⟩
  ·refine XInv.yes_tab [(126, 49), (121, 44)] (by kernel_rfl) ?_
   have hs0 := (XInv.reach hclo [39, 35, 31, 29, 25, 21, 17, 13, 11] 44 10 (by kernel_rfl) (hneed 44 (by kernel_rfl)))
   have hs1 := (XInv.reach hclo [39, 35, 31, 29] 44 28 (by kernel_rfl) (hneed 44 (by kernel_rfl)))
   have hs2 := XInv.unreach hclo [71, 67, 60, 55, 51] 73 50 (by kernel_rfl) hlb
   rw [if_neg (by rw [hs2]; decide)] at hW
   rw [if_pos hs1] at hW
   clear hcl hneed hclo
   intro Q2 K2 hK2
   simp only [XInv.puts, XPrint.pw]
   go_simp
   exact hK2.out (.bool true) w' ⟨bq, rfl, fun _ _ _ => rfl, (by rw [if_neg (by simp [XInv.up, hs2])]; rw [if_pos (by simp [XInv.up, hs1])]; exact hW)⟩
  ·refine XInv.yes_tab [(127, 50), (121, 44)] (by kernel_rfl) ?_
   have hs0 := (XInv.reach hclo [39, 35, 31, 29, 25, 21, 17, 13, 11] 44 10 (by kernel_rfl) (hneed 44 (by kernel_rfl)))
   have hs1 := (XInv.reach hclo [39, 35, 31, 29] 44 28 (by kernel_rfl) (hneed 44 (by kernel_rfl)))
   have hs2 := XInv.unreach hclo [71, 67, 60, 55] 73 51 (by kernel_rfl) hlb
   rw [if_neg (by rw [hs2]; decide)] at hW
   rw [if_pos hs1] at hW
   clear hcl hneed hclo
   intro Q2 K2 hK2
   simp only [XInv.puts, XPrint.pw]
   go_simp
   exact hK2.out (.bool true) w' ⟨bq, rfl, fun _ _ _ => rfl, (by rw [if_neg (by simp [XInv.up, hs2])]; rw [if_pos (by simp [XInv.up, hs1])]; exact hW)⟩
  ·refine XInv.yes_tab [(128, 51)] (by kernel_rfl) ?_
   have hs0 := (XInv.reach hclo [44, 39, 35, 31, 29, 25, 21, 17, 13, 11] 51 10 (by kernel_rfl) (hneed 51 (by kernel_rfl)))
   have hs1 := (XInv.reach hclo [44, 39, 35, 31, 29] 51 28 (by kernel_rfl) (hneed 51 (by kernel_rfl)))
   have hs2 := XInv.unreach hclo [71, 67, 60, 55, 54, 53] 73 52 (by kernel_rfl) hlb
   rw [if_neg (by rw [hs2]; decide)] at hW
   rw [if_pos hs1] at hW
   clear hcl hneed hclo
   intro Q2 K2 hK2
   simp only [XInv.puts, XPrint.pw]
   go_simp
   exact hK2.out (.int .i64 0) w' ⟨bq, rfl, fun _ _ _ => rfl, (by rw [if_neg (by simp [XInv.up, hs2])]; rw [if_pos (by simp [XInv.up, hs1])]; exact hW)⟩
  ·refine XInv.yes_tab [(129, 52), (128, 51)] (by kernel_rfl) ?_
   have hs0 := (XInv.reach hclo [44, 39, 35, 31, 29, 25, 21, 17, 13, 11] 51 10 (by kernel_rfl) (hneed 51 (by kernel_rfl)))
   have hs1 := (XInv.reach hclo [44, 39, 35, 31, 29] 51 28 (by kernel_rfl) (hneed 51 (by kernel_rfl)))
   have hs2 := XInv.unreach hclo [71, 67, 60, 55, 54] 73 53 (by kernel_rfl) hlb
   rw [if_neg (by rw [hs2]; decide)] at hW
   rw [if_pos hs1] at hW
   clear hcl hneed hclo
   intro Q2 K2 hK2
   simp only [XInv.puts, XPrint.pw]
   go_simp
   exact hK2.out (.bool true) w' ⟨bq, rfl, fun _ _ _ => rfl, (by rw [if_neg (by simp [XInv.up, hs2])]; rw [if_pos (by simp [XInv.up, hs1])]; exact hW)⟩
  ·refine XInv.yes_tab [(130, 53), (128, 51)] (by kernel_rfl) ?_
   have hs0 := (XInv.reach hclo [44, 39, 35, 31, 29, 25, 21, 17, 13, 11] 51 10 (by kernel_rfl) (hneed 51 (by kernel_rfl)))
   have hs1 := (XInv.reach hclo [44, 39, 35, 31, 29] 51 28 (by kernel_rfl) (hneed 51 (by kernel_rfl)))
   have hs2 := XInv.unreach hclo [71, 67, 60, 55] 73 54 (by kernel_rfl) hlb
   rw [if_neg (by rw [hs2]; decide)] at hW
   rw [if_pos hs1] at hW
   clear hcl hneed hclo
   intro Q2 K2 hK2
   simp only [XInv.puts, XPrint.pw]
   go_simp
   exact hK2.out (.bool true) w' ⟨bq, rfl, fun _ _ _ => rfl, (by rw [if_neg (by simp [XInv.up, hs2])]; rw [if_pos (by simp [XInv.up, hs1])]; exact hW)⟩
  ·refine XInv.yes_tab [(131, 54), (128, 51)] (by kernel_rfl) ?_
   have hs0 := (XInv.reach hclo [44, 39, 35, 31, 29, 25, 21, 17, 13, 11] 51 10 (by kernel_rfl) (hneed 51 (by kernel_rfl)))
   have hs1 := (XInv.reach hclo [44, 39, 35, 31, 29] 51 28 (by kernel_rfl) (hneed 51 (by kernel_rfl)))
   have hs2 := XInv.unreach hclo [71, 67, 60] 73 55 (by kernel_rfl) hlb
   rw [if_neg (by rw [hs2]; decide)] at hW
   rw [if_pos hs1] at hW
   clear hcl hneed hclo
   intro Q2 K2 hK2
   simp only [XInv.puts, XPrint.pw]
   go_simp
   exact hK2.out (.bool true) w' ⟨bq, rfl, fun _ _ _ => rfl, (by rw [if_neg (by simp [XInv.up, hs2])]; rw [if_pos (by simp [XInv.up, hs1])]; exact hW)⟩
  ·refine XInv.yes_tab [(132, 55)] (by kernel_rfl) ?_
   have hs0 := (XInv.reach hclo [51, 44, 39, 35, 31, 29, 25, 21, 17, 13, 11] 55 10 (by kernel_rfl) (hneed 55 (by kernel_rfl)))
   have hs1 := (XInv.reach hclo [51, 44, 39, 35, 31, 29] 55 28 (by kernel_rfl) (hneed 55 (by kernel_rfl)))
   have hs2 := XInv.unreach hclo [71, 67, 60, 59, 58, 57] 73 56 (by kernel_rfl) hlb
   rw [if_neg (by rw [hs2]; decide)] at hW
   rw [if_pos hs1] at hW
   clear hcl hneed hclo
   intro Q2 K2 hK2
   simp only [XInv.puts, XPrint.pw]
   go_simp
   exact hK2.out (.slice (some a5) 1 c5) w' ⟨bq, rfl, fun _ _ _ => rfl, (by rw [if_neg (by simp [XInv.up, hs2])]; rw [if_pos (by simp [XInv.up, hs1])]; exact hW)⟩
  ·refine XInv.yes_tab [(133, 56), (132, 55)] (by kernel_rfl) ?_
   have hs0 := (XInv.reach hclo [51, 44, 39, 35, 31, 29, 25, 21, 17, 13, 11] 55 10 (by kernel_rfl) (hneed 55 (by kernel_rfl)))
   have hs1 := (XInv.reach hclo [51, 44, 39, 35, 31, 29] 55 28 (by kernel_rfl) (hneed 55 (by kernel_rfl)))
   have hs2 := XInv.unreach hclo [71, 67, 60, 59, 58] 73 57 (by kernel_rfl) hlb
   rw [if_neg (by rw [hs2]; decide)] at hW
   rw [if_pos hs1] at hW
   clear hcl hneed hclo
   intro Q2 K2 hK2
   simp only [XInv.puts, XPrint.pw]
   go_simp
   exact hK2.out (.int .i64 1) w' ⟨bq, rfl, fun _ _ _ => rfl, (by rw [if_neg (by simp [XInv.up, hs2])]; rw [if_pos (by simp [XInv.up, hs1])]; exact hW)⟩
  ·refine XInv.yes_tab [(134, 57), (132, 55)] (by kernel_rfl) ?_
   have hs0 := (XInv.reach hclo [51, 44, 39, 35, 31, 29, 25, 21, 17, 13, 11] 55 10 (by kernel_rfl) (hneed 55 (by kernel_rfl)))
   have hs1 := (XInv.reach hclo [51, 44, 39, 35, 31, 29] 55 28 (by kernel_rfl) (hneed 55 (by kernel_rfl)))
   have hs2 := XInv.unreach hclo [71, 67, 60, 59] 73 58 (by kernel_rfl) hlb
   rw [if_neg (by rw [hs2]; decide)] at hW
   rw [if_pos hs1] at hW
   clear hcl hneed hclo
   intro Q2 K2 hK2
   simp only [XInv.puts, XPrint.pw]
   go_simp
   exact hK2.out (.bool true) w' ⟨bq, rfl, fun _ _ _ => rfl, (by rw [if_neg (by simp [XInv.up, hs2])]; rw [if_pos (by simp [XInv.up, hs1])]; exact hW)⟩
  ·refine XInv.yes_tab [(135, 58), (132, 55)] (by kernel_rfl) ?_
   have hs0 := (XInv.reach hclo [51, 44, 39, 35, 31, 29, 25, 21, 17, 13, 11] 55 10 (by kernel_rfl) (hneed 55 (by kernel_rfl)))
   have hs1 := (XInv.reach hclo [51, 44, 39, 35, 31, 29] 55 28 (by kernel_rfl) (hneed 55 (by kernel_rfl)))
   have hs2 := XInv.unreach hclo [71, 67, 60] 73 59 (by kernel_rfl) hlb
   rw [if_neg (by rw [hs2]; decide)] at hW
   rw [if_pos hs1] at hW
   clear hcl hneed hclo
   intro Q2 K2 hK2
   simp only [XInv.puts, XPrint.pw]
   go_simp
   exact hK2.out (.bool true) w' ⟨bq, rfl, fun _ _ _ => rfl, (by rw [if_neg (by simp [XInv.up, hs2])]; rw [if_pos (by simp [XInv.up, hs1])]; exact hW)⟩
  ·refine XInv.yes_tab [(136, 59), (132, 55)] (by kernel_rfl) ?_
   have hs0 := (XInv.reach hclo [51, 44, 39, 35, 31, 29, 25, 21, 17, 13, 11] 55 10 (by kernel_rfl) (hneed 55 (by kernel_rfl)))
   have hs1 := (XInv.reach hclo [51, 44, 39, 35, 31, 29] 55 28 (by kernel_rfl) (hneed 55 (by kernel_rfl)))
   have hs2 := XInv.unreach hclo [71, 67] 73 60 (by kernel_rfl) hlb
   rw [if_neg (by rw [hs2]; decide)] at hW
   rw [if_pos hs1] at hW
   clear hcl hneed hclo
   intro Q2 K2 hK2
   simp only [XInv.puts, XPrint.pw]
   go_simp
   exact hK2.out (.bool true) w' ⟨bq, rfl, fun _ _ _ => rfl, (by rw [if_neg (by simp [XInv.up, hs2])]; rw [if_pos (by simp [XInv.up, hs1])]; exact hW)⟩
  ·refine XInv.yes_tab [(137, 60)] (by kernel_rfl) ?_
   have hs0 := (XInv.reach hclo [55, 51, 44, 39, 35, 31, 29, 25, 21, 17, 13, 11] 60 10 (by kernel_rfl) (hneed 60 (by kernel_rfl)))
   have hs1 := (XInv.reach hclo [55, 51, 44, 39, 35, 31, 29] 60 28 (by kernel_rfl) (hneed 60 (by kernel_rfl)))
   have hs2 := XInv.unreach hclo [71, 67, 66, 65, 64, 63, 62] 73 61 (by kernel_rfl) hlb
   rw [if_neg (by rw [hs2]; decide)] at hW
   rw [if_pos hs1] at hW
   clear hcl hneed hclo
   intro Q2 K2 hK2
   simp only [XInv.puts, XPrint.pw]
   go_simp
   exact hK2.out (.slice (some a5) 1 c5) w' ⟨bq, rfl, fun _ _ _ => rfl, (by rw [if_neg (by simp [XInv.up, hs2])]; rw [if_pos (by simp [XInv.up, hs1])]; exact hW)⟩
  ·refine XInv.yes_tab [(138, 61), (137, 60)] (by kernel_rfl) ?_
   have hs0 := (XInv.reach hclo [55, 51, 44, 39, 35, 31, 29, 25, 21, 17, 13, 11] 60 10 (by kernel_rfl) (hneed 60 (by kernel_rfl)))
   have hs1 := (XInv.reach hclo [55, 51, 44, 39, 35, 31, 29] 60 28 (by kernel_rfl) (hneed 60 (by kernel_rfl)))
   have hs2 := XInv.unreach hclo [71, 67, 66, 65, 64, 63] 73 62 (by kernel_rfl) hlb
   rw [if_neg (by rw [hs2]; decide)] at hW
   rw [if_pos hs1] at hW
   clear hcl hneed hclo
   intro Q2 K2 hK2
   simp only [XInv.puts, XPrint.pw]
   go_simp
   exact hK2.out (.pointer (some a5)) w' ⟨bq, rfl, fun _ _ _ => rfl, (by rw [if_neg (by simp [XInv.up, hs2])]; rw [if_pos (by simp [XInv.up, hs1])]; exact hW)⟩
  ·refine XInv.yes_tab [(139, 62), (137, 60)] (by kernel_rfl) ?_
   have hs0 := (XInv.reach hclo [55, 51, 44, 39, 35, 31, 29, 25, 21, 17, 13, 11] 60 10 (by kernel_rfl) (hneed 60 (by kernel_rfl)))
   have hs1 := (XInv.reach hclo [55, 51, 44, 39, 35, 31, 29] 60 28 (by kernel_rfl) (hneed 60 (by kernel_rfl)))
   have hs2 := XInv.unreach hclo [71, 67, 66, 65, 64] 73 63 (by kernel_rfl) hlb
   rw [if_neg (by rw [hs2]; decide)] at hW
   rw [if_pos hs1] at hW
   clear hcl hneed hclo
   intro Q2 K2 hK2
   simp only [XInv.puts, XPrint.pw]
   go_simp
   exact hK2.out (.pointer (some a5)) w' ⟨bq, rfl, fun _ _ _ => rfl, (by rw [if_neg (by simp [XInv.up, hs2])]; rw [if_pos (by simp [XInv.up, hs1])]; exact hW)⟩
  ·refine XInv.yes_tab [(140, 63), (137, 60)] (by kernel_rfl) ?_
   have hs0 := (XInv.reach hclo [55, 51, 44, 39, 35, 31, 29, 25, 21, 17, 13, 11] 60 10 (by kernel_rfl) (hneed 60 (by kernel_rfl)))
   have hs1 := (XInv.reach hclo [55, 51, 44, 39, 35, 31, 29] 60 28 (by kernel_rfl) (hneed 60 (by kernel_rfl)))
   have hs2 := XInv.unreach hclo [71, 67, 66, 65] 73 64 (by kernel_rfl) hlb
   rw [if_neg (by rw [hs2]; decide)] at hW
   rw [if_pos hs1] at hW
   have hB := hW.1
   clear hcl hneed
   intro Q2 K2 hK2
   simp only [XInv.puts, XPrint.pw]
   have i0 := pw_cell_below hB IJ.out.1
   have j0 := pw_cell_below hB IJ.out.2
   go_simp
   exact hK2.out (.int .u32 3) w' ⟨bq, rfl, fun _ _ _ => rfl, (by rw [if_neg (by simp [XInv.up, hs2])]; rw [if_pos (by simp [XInv.up, hs1])]; exact hW)⟩
  ·refine XInv.yes_tab [(141, 64), (137, 60)] (by kernel_rfl) ?_
   have hs0 := (XInv.reach hclo [55, 51, 44, 39, 35, 31, 29, 25, 21, 17, 13, 11] 60 10 (by kernel_rfl) (hneed 60 (by kernel_rfl)))
   have hs1 := (XInv.reach hclo [55, 51, 44, 39, 35, 31, 29] 60 28 (by kernel_rfl) (hneed 60 (by kernel_rfl)))
   have hs2 := XInv.unreach hclo [71, 67, 66] 73 65 (by kernel_rfl) hlb
   rw [if_neg (by rw [hs2]; decide)] at hW
   rw [if_pos hs1] at hW
   clear hcl hneed hclo
   intro Q2 K2 hK2
   simp only [XInv.puts, XPrint.pw]
   go_simp
   exact hK2.out (.bool true) w' ⟨bq, rfl, fun _ _ _ => rfl, (by rw [if_neg (by simp [XInv.up, hs2])]; rw [if_pos (by simp [XInv.up, hs1])]; exact hW)⟩
  ·refine XInv.yes_tab [(142, 65), (137, 60)] (by kernel_rfl) ?_
   have hs0 := (XInv.reach hclo [55, 51, 44, 39, 35, 31, 29, 25, 21, 17, 13, 11] 60 10 (by kernel_rfl) (hneed 60 (by kernel_rfl)))
   have hs1 := (XInv.reach hclo [55, 51, 44, 39, 35, 31, 29] 60 28 (by kernel_rfl) (hneed 60 (by kernel_rfl)))
   have hs2 := XInv.unreach hclo [71, 67] 73 66 (by kernel_rfl) hlb
   rw [if_neg (by rw [hs2]; decide)] at hW
   rw [if_pos hs1] at hW
   clear hcl hneed hclo
   intro Q2 K2 hK2
   simp only [XInv.puts, XPrint.pw]
   go_simp
   exact hK2.out (.bool true) w' ⟨bq, rfl, fun _ _ _ => rfl, (by rw [if_neg (by simp [XInv.up, hs2])]; rw [if_pos (by simp [XInv.up, hs1])]; exact hW)⟩
  ·refine XInv.yes_tab [(143, 66), (137, 60)] (by kernel_rfl) ?_
   have hs0 := (XInv.reach hclo [55, 51, 44, 39, 35, 31, 29, 25, 21, 17, 13, 11] 60 10 (by kernel_rfl) (hneed 60 (by kernel_rfl)))
   have hs1 := (XInv.reach hclo [55, 51, 44, 39, 35, 31, 29] 60 28 (by kernel_rfl) (hneed 60 (by kernel_rfl)))
   have hs2 := XInv.unreach hclo [71] 73 67 (by kernel_rfl) hlb
   rw [if_neg (by rw [hs2]; decide)] at hW
   rw [if_pos hs1] at hW
   clear hcl hneed hclo
   intro Q2 K2 hK2
   simp only [XInv.puts, XPrint.pw]
   go_simp
   exact hK2.out (.bool true) w' ⟨bq, rfl, fun _ _ _ => rfl, (by rw [if_neg (by simp [XInv.up, hs2])]; rw [if_pos (by simp [XInv.up, hs1])]; exact hW)⟩
  ·refine XInv.yes_tab [(144, 67)] (by kernel_rfl) ?_
   have hs0 := (XInv.reach hclo [60, 55, 51, 44, 39, 35, 31, 29, 25, 21, 17, 13, 11] 67 10 (by kernel_rfl) (hneed 67 (by kernel_rfl)))
   have hs1 := (XInv.reach hclo [60, 55, 51, 44, 39, 35, 31, 29] 67 28 (by kernel_rfl) (hneed 67 (by kernel_rfl)))
   have hs2 := XInv.unreach hclo [71, 70, 69] 73 68 (by kernel_rfl) hlb
   rw [if_neg (by rw [hs2]; decide)] at hW
   rw [if_pos hs1] at hW
   clear hcl hneed hclo
   intro Q2 K2 hK2
   simp only [XInv.puts, XPrint.pw]
   go_simp
   exact hK2.out (.int .i64 0) w' ⟨bq, rfl, fun _ _ _ => rfl, (by rw [if_neg (by simp [XInv.up, hs2])]; rw [if_pos (by simp [XInv.up, hs1])]; exact hW)⟩
  ·refine XInv.yes_tab [(145, 68), (144, 67)] (by kernel_rfl) ?_
   have hs0 := (XInv.reach hclo [60, 55, 51, 44, 39, 35, 31, 29, 25, 21, 17, 13, 11] 67 10 (by kernel_rfl) (hneed 67 (by kernel_rfl)))
   have hs1 := (XInv.reach hclo [60, 55, 51, 44, 39, 35, 31, 29] 67 28 (by kernel_rfl) (hneed 67 (by kernel_rfl)))
   have hs2 := XInv.unreach hclo [71, 70] 73 69 (by kernel_rfl) hlb
   rw [if_neg (by rw [hs2]; decide)] at hW
   rw [if_pos hs1] at hW
   clear hcl hneed hclo
   intro Q2 K2 hK2
   simp only [XInv.puts, XPrint.pw]
   go_simp
   exact hK2.out (.bool true) w' ⟨bq, rfl, fun _ _ _ => rfl, (by rw [if_neg (by simp [XInv.up, hs2])]; rw [if_pos (by simp [XInv.up, hs1])]; exact hW)⟩
  ·refine XInv.yes_tab [(146, 69), (144, 67)] (by kernel_rfl) ?_
   have hs0 := (XInv.reach hclo [60, 55, 51, 44, 39, 35, 31, 29, 25, 21, 17, 13, 11] 67 10 (by kernel_rfl) (hneed 67 (by kernel_rfl)))
   have hs1 := (XInv.reach hclo [60, 55, 51, 44, 39, 35, 31, 29] 67 28 (by kernel_rfl) (hneed 67 (by kernel_rfl)))
   have hs2 := XInv.unreach hclo [71] 73 70 (by kernel_rfl) hlb
   rw [if_neg (by rw [hs2]; decide)] at hW
   rw [if_pos hs1] at hW
   clear hcl hneed hclo
   intro Q2 K2 hK2
   simp only [XInv.puts, XPrint.pw]
   go_simp
   exact hK2.out (.bool true) w' ⟨bq, rfl, fun _ _ _ => rfl, (by rw [if_neg (by simp [XInv.up, hs2])]; rw [if_pos (by simp [XInv.up, hs1])]; exact hW)⟩
  ·refine XInv.yes_tab [(147, 70), (144, 67)] (by kernel_rfl) ?_
   have hs0 := (XInv.reach hclo [60, 55, 51, 44, 39, 35, 31, 29, 25, 21, 17, 13, 11] 67 10 (by kernel_rfl) (hneed 67 (by kernel_rfl)))
   have hs1 := (XInv.reach hclo [60, 55, 51, 44, 39, 35, 31, 29] 67 28 (by kernel_rfl) (hneed 67 (by kernel_rfl)))
   have hs2 := hcl 73 (by decide) (by kernel_rfl)
   rw [if_neg (by rw [hs2]; decide)] at hW
   rw [if_pos hs1] at hW
   clear hcl hneed hclo
   intro Q2 K2 hK2
   simp only [XInv.puts, XPrint.pw]
   go_simp
   exact hK2.out (.bool true) w' ⟨bq, rfl, fun _ _ _ => rfl, (by rw [if_neg (by simp [XInv.up, hs2])]; rw [if_pos (by simp [XInv.up, hs1])]; exact hW)⟩
  ·refine XInv.yes_tab [(148, 71)] (by kernel_rfl) ?_
   have hs0 := (XInv.reach hclo [67, 60, 55, 51, 44, 39, 35, 31, 29, 25, 21, 17, 13, 11] 71 10 (by kernel_rfl) (hneed 71 (by kernel_rfl)))
   have hs1 := (XInv.reach hclo [67, 60, 55, 51, 44, 39, 35, 31, 29] 71 28 (by kernel_rfl) (hneed 71 (by kernel_rfl)))
   have hs2 := hcl 73 (by decide) (by kernel_rfl)
   rw [if_neg (by rw [hs2]; decide)] at hW
   rw [if_pos hs1] at hW
   clear hcl hneed hclo
   intro Q2 K2 hK2
   simp only [XInv.puts, XPrint.pw]
   go_simp
   exact hK2.out (.pointer (some ⟨p, 0, none⟩)) w' ⟨bq, rfl, fun _ _ _ => rfl, (by rw [if_neg (by simp [XInv.up, hs2])]; rw [if_pos (by simp [XInv.up, hs1])]; exact hW)⟩
  ·refine XInv.yes_tab [(149, 72), (148, 71)] (by kernel_rfl) ?_
   have hs0 := (XInv.reach hclo [67, 60, 55, 51, 44, 39, 35, 31, 29, 25, 21, 17, 13, 11] 71 10 (by kernel_rfl) (hneed 71 (by kernel_rfl)))
   have hs1 := (XInv.reach hclo [67, 60, 55, 51, 44, 39, 35, 31, 29] 71 28 (by kernel_rfl) (hneed 71 (by kernel_rfl)))
   have hs2 := hlb
   rw [if_neg (by rw [hs2]; decide)] at hW
   rw [if_pos hs1] at hW
   have hB := hW.1
   clear hcl hneed
   intro Q2 K2 hK2
   simp only [XInv.puts, XPrint.pw]
   go_simp
   go_at_call 13
   (with_reducible refine ((X.out.same hB).boxes).mono ?_)
   rintro e wz ⟨vz, rfl, hRz, hbz⟩
   obtain ⟨Az, cz, rfl⟩ := Kd.R_slice hRz
   have hrz := Kd.R_reads' hRz
   exact hK2.out (.slice Az 1 cz) wz ⟨(bq.1, bq.2.1, Az, cz), rfl, (cs87 _ (fun _ => rfl) (fun _ => rfl) (fun _ => rfl) (fun _ => rfl) (fun _ => rfl) (fun _ => rfl) (fun _ => rfl) (fun _ => rfl) (fun _ => rfl) (fun _ => rfl) (fun _ => rfl) (fun _ => rfl) (fun _ => rfl) (fun _ => rfl) (fun _ => rfl) (fun _ => rfl) (fun _ => rfl) (fun _ => rfl) (fun _ => rfl) (fun _ => rfl) (fun _ => rfl) (fun _ => rfl) (fun _ => rfl) (fun _ => rfl) (fun _ => rfl) (fun _ => rfl) (fun _ => rfl) (fun _ => rfl) (fun _ => rfl) (fun _ => rfl) (fun _ => rfl) (fun _ => rfl) (fun _ => rfl) (fun _ => rfl) (fun _ => rfl) (fun _ => rfl) (fun _ => rfl) (fun _ => rfl) (fun _ => rfl) (fun _ => rfl) (fun _ => rfl) (fun _ => rfl) (fun _ => rfl) (fun _ => rfl) (fun _ => rfl) (fun _ => rfl) (fun _ => rfl) (fun _ => rfl) (fun _ => rfl) (fun _ => rfl) (fun _ => rfl) (fun _ => rfl) (fun _ => rfl) (fun _ => rfl) (fun _ => rfl) (fun _ => rfl) (fun _ => rfl) (fun _ => rfl) (fun _ => rfl) (fun _ => rfl) (fun _ => rfl) (fun _ => rfl) (fun _ => rfl) (fun _ => rfl) (fun _ => rfl) (fun _ => rfl) (fun _ => rfl) (fun _ => rfl) (fun _ => rfl) (fun _ => rfl) (fun _ => rfl) (fun _ => rfl) (fun _ => rfl) (fun hlj => absurd (hlb.symm.trans hlj) (by decide)) (fun _ => rfl) (fun _ => rfl) (fun _ => rfl) (fun _ => rfl) (fun _ => rfl) (fun _ => rfl) (fun _ => rfl) (fun _ => rfl) (fun _ => rfl) (fun _ => rfl) (fun _ => rfl) (fun _ => rfl) (fun _ => rfl)), (by rw [if_pos (by simp [XInv.up, hs2])]; exact ⟨below_step hB hbz, hrz.2.2, hrz.2.1⟩)⟩
  ·refine XInv.yes_tab [(148, 71)] (by kernel_rfl) ?_
   have hs0 := (XInv.reach hclo [67, 60, 55, 51, 44, 39, 35, 31, 29, 25, 21, 17, 13, 11] 71 10 (by kernel_rfl) (hneed 71 (by kernel_rfl)))
   have hs1 := (XInv.reach hclo [67, 60, 55, 51, 44, 39, 35, 31, 29] 71 28 (by kernel_rfl) (hneed 71 (by kernel_rfl)))
   cases hs2 : lb 73
   case false =>
    rw [if_neg (by rw [hs2]; decide)] at hW
    rw [if_pos hs1] at hW
    clear hcl hneed hclo
    intro Q2 K2 hK2
    simp only [XInv.puts, XPrint.pw]
    go_simp
    exact hK2.out (.slice A1 2 c1) w' ⟨bq, rfl, fun _ _ _ => rfl, (by rw [if_neg (by simp [XInv.up, hs2])]; rw [if_pos (by simp [XInv.up, hs1])]; exact hW)⟩
   case true =>
    rw [if_pos hs2] at hW
    clear hcl hneed hclo
    intro Q2 K2 hK2
    simp only [XInv.puts, XPrint.pw]
    go_simp
    exact hK2.out (.slice A1 2 c1) w' ⟨bq, rfl, fun _ _ _ => rfl, (by rw [if_pos (by simp [XInv.up, hs2])]; exact hW)⟩
  ·refine XInv.yes_tab [(151, 74), (148, 71)] (by kernel_rfl) ?_
   have hs0 := (XInv.reach hclo [67, 60, 55, 51, 44, 39, 35, 31, 29, 25, 21, 17, 13, 11] 71 10 (by kernel_rfl) (hneed 71 (by kernel_rfl)))
   have hs1 := (XInv.reach hclo [67, 60, 55, 51, 44, 39, 35, 31, 29] 71 28 (by kernel_rfl) (hneed 71 (by kernel_rfl)))
   cases hs2 : lb 73
   case false =>
    rw [if_neg (by rw [hs2]; decide)] at hW
    rw [if_pos hs1] at hW
    clear hcl hneed hclo
    intro Q2 K2 hK2
    simp only [XInv.puts, XPrint.pw]
    go_simp
    exact hK2.out (.slice A1 1 c1) w' ⟨bq, rfl, fun _ _ _ => rfl, (by rw [if_neg (by simp [XInv.up, hs2])]; rw [if_pos (by simp [XInv.up, hs1])]; exact hW)⟩
   case true =>
    rw [if_pos hs2] at hW
    clear hcl hneed hclo
    intro Q2 K2 hK2
    simp only [XInv.puts, XPrint.pw]
    go_simp
    exact hK2.out (.slice A1 1 c1) w' ⟨bq, rfl, fun _ _ _ => rfl, (by rw [if_pos (by simp [XInv.up, hs2])]; exact hW)⟩
  ·refine XInv.yes_tab [(152, 75), (150, 73), (148, 71)] (by kernel_rfl) ?_
   have hs0 := (XInv.reach hclo [67, 60, 55, 51, 44, 39, 35, 31, 29, 25, 21, 17, 13, 11] 71 10 (by kernel_rfl) (hneed 71 (by kernel_rfl)))
   have hs1 := (XInv.reach hclo [67, 60, 55, 51, 44, 39, 35, 31, 29] 71 28 (by kernel_rfl) (hneed 71 (by kernel_rfl)))
   have hs2 := hneed 73 (by kernel_rfl)
   rw [if_pos hs2] at hW
   have hB := hW.1
   clear hcl hneed
   intro Q2 K2 hK2
   simp only [XInv.puts, XPrint.pw]
   go_simp
   go_at_call 29
   (with_reducible refine (dsame [b1] _ _ 1 _ _ _ hW.2.1 (CT.out w' hB) rfl (by decide)).mono ?_)
   rintro e wz ⟨rfl, hb⟩
   exact hK2.out (.bool true) wz ⟨bq, rfl, fun _ _ _ => rfl, (by rw [if_pos (by simp [XInv.up, hs2])]; exact ⟨below_step hB hb, Kd.C_below hW.2.1 hb, hW.2.2⟩)⟩
  ·refine XInv.yes_tab [(153, 76), (148, 71)] (by kernel_rfl) ?_
   have hs0 := (XInv.reach hclo [67, 60, 55, 51, 44, 39, 35, 31, 29, 25, 21, 17, 13, 11] 71 10 (by kernel_rfl) (hneed 71 (by kernel_rfl)))
   have hs1 := (XInv.reach hclo [67, 60, 55, 51, 44, 39, 35, 31, 29] 71 28 (by kernel_rfl) (hneed 71 (by kernel_rfl)))
   have hs2 := (XInv.reach hclo [] 76 73 (by kernel_rfl) (hneed 76 (by kernel_rfl)))
   rw [if_pos hs2] at hW
   clear hcl hneed hclo
   intro Q2 K2 hK2
   simp only [XInv.puts, XPrint.pw]
   go_simp
   exact hK2.out (.bool true) w' ⟨bq, rfl, fun _ _ _ => rfl, (by rw [if_pos (by simp [XInv.up, hs2])]; exact hW)⟩
  ·refine XInv.yes_tab [(154, 77), (153, 76)] (by kernel_rfl) ?_
   have hs0 := (XInv.reach hclo [71, 67, 60, 55, 51, 44, 39, 35, 31, 29, 25, 21, 17, 13, 11] 76 10 (by kernel_rfl) (hneed 76 (by kernel_rfl)))
   have hs1 := (XInv.reach hclo [71, 67, 60, 55, 51, 44, 39, 35, 31, 29] 76 28 (by kernel_rfl) (hneed 76 (by kernel_rfl)))
   have hs2 := (XInv.reach hclo [] 76 73 (by kernel_rfl) (hneed 76 (by kernel_rfl)))
   rw [if_pos hs2] at hW
   clear hcl hneed hclo
   intro Q2 K2 hK2
   simp only [XInv.puts, XPrint.pw]
   go_simp
   exact hK2.out (.bool true) w' ⟨bq, rfl, fun _ _ _ => rfl, (by rw [if_pos (by simp [XInv.up, hs2])]; exact hW)⟩
  ·refine XInv.yes_tab [(155, 78)] (by kernel_rfl) ?_
   have hs0 := (XInv.reach hclo [76, 71, 67, 60, 55, 51, 44, 39, 35, 31, 29, 25, 21, 17, 13, 11] 78 10 (by kernel_rfl) (hneed 78 (by kernel_rfl)))
   have hs1 := (XInv.reach hclo [76, 71, 67, 60, 55, 51, 44, 39, 35, 31, 29] 78 28 (by kernel_rfl) (hneed 78 (by kernel_rfl)))
   have hs2 := (XInv.reach hclo [76] 78 73 (by kernel_rfl) (hneed 78 (by kernel_rfl)))
   rw [if_pos hs2] at hW
   clear hcl hneed hclo
   intro Q2 K2 hK2
   simp only [XInv.puts, XPrint.pw]
   go_simp
   exact hK2.out (.int .i64 7) w' ⟨bq, rfl, fun _ _ _ => rfl, (by rw [if_pos (by simp [XInv.up, hs2])]; exact hW)⟩
  ·refine XInv.yes_tab [(156, 79), (155, 78)] (by kernel_rfl) ?_
   have hs0 := (XInv.reach hclo [76, 71, 67, 60, 55, 51, 44, 39, 35, 31, 29, 25, 21, 17, 13, 11] 78 10 (by kernel_rfl) (hneed 78 (by kernel_rfl)))
   have hs1 := (XInv.reach hclo [76, 71, 67, 60, 55, 51, 44, 39, 35, 31, 29] 78 28 (by kernel_rfl) (hneed 78 (by kernel_rfl)))
   have hs2 := (XInv.reach hclo [76] 78 73 (by kernel_rfl) (hneed 78 (by kernel_rfl)))
   rw [if_pos hs2] at hW
   clear hcl hneed hclo
   intro Q2 K2 hK2
   simp only [XInv.puts, XPrint.pw]
   go_simp
   exact hK2.out (.bool true) w' ⟨bq, rfl, fun _ _ _ => rfl, (by rw [if_pos (by simp [XInv.up, hs2])]; exact hW)⟩
  ·refine XInv.yes_tab [(157, 80), (155, 78)] (by kernel_rfl) ?_
   have hs0 := (XInv.reach hclo [76, 71, 67, 60, 55, 51, 44, 39, 35, 31, 29, 25, 21, 17, 13, 11] 78 10 (by kernel_rfl) (hneed 78 (by kernel_rfl)))
   have hs1 := (XInv.reach hclo [76, 71, 67, 60, 55, 51, 44, 39, 35, 31, 29] 78 28 (by kernel_rfl) (hneed 78 (by kernel_rfl)))
   have hs2 := (XInv.reach hclo [76] 78 73 (by kernel_rfl) (hneed 78 (by kernel_rfl)))
   rw [if_pos hs2] at hW
   clear hcl hneed hclo
   intro Q2 K2 hK2
   simp only [XInv.puts, XPrint.pw]
   go_simp
   exact hK2.out (.bool true) w' ⟨bq, rfl, fun _ _ _ => rfl, (by rw [if_pos (by simp [XInv.up, hs2])]; exact hW)⟩
  ·refine XInv.yes_tab [(158, 81), (155, 78)] (by kernel_rfl) ?_
   have hs0 := (XInv.reach hclo [76, 71, 67, 60, 55, 51, 44, 39, 35, 31, 29, 25, 21, 17, 13, 11] 78 10 (by kernel_rfl) (hneed 78 (by kernel_rfl)))
   have hs1 := (XInv.reach hclo [76, 71, 67, 60, 55, 51, 44, 39, 35, 31, 29] 78 28 (by kernel_rfl) (hneed 78 (by kernel_rfl)))
   have hs2 := (XInv.reach hclo [76] 78 73 (by kernel_rfl) (hneed 78 (by kernel_rfl)))
   rw [if_pos hs2] at hW
   clear hcl hneed hclo
   intro Q2 K2 hK2
   simp only [XInv.puts, XPrint.pw]
   go_simp
   exact hK2.out (.bool true) w' ⟨bq, rfl, fun _ _ _ => rfl, (by rw [if_pos (by simp [XInv.up, hs2])]; exact hW)⟩
  ·refine XInv.yes_tab [(159, 82)] (by kernel_rfl) ?_
   have hs0 := (XInv.reach hclo [78, 76, 71, 67, 60, 55, 51, 44, 39, 35, 31, 29, 25, 21, 17, 13, 11] 82 10 (by kernel_rfl) (hneed 82 (by kernel_rfl)))
   have hs1 := (XInv.reach hclo [78, 76, 71, 67, 60, 55, 51, 44, 39, 35, 31, 29] 82 28 (by kernel_rfl) (hneed 82 (by kernel_rfl)))
   have hs2 := (XInv.reach hclo [78, 76] 82 73 (by kernel_rfl) (hneed 82 (by kernel_rfl)))
   rw [if_pos hs2] at hW
   clear hcl hneed hclo
   intro Q2 K2 hK2
   simp only [XInv.puts, XPrint.pw]
   go_simp
   exact hK2.out (.int .i64 2) w' ⟨bq, rfl, fun _ _ _ => rfl, (by rw [if_pos (by simp [XInv.up, hs2])]; exact hW)⟩
  ·refine XInv.yes_tab [(160, 83), (159, 82)] (by kernel_rfl) ?_
   have hs0 := (XInv.reach hclo [78, 76, 71, 67, 60, 55, 51, 44, 39, 35, 31, 29, 25, 21, 17, 13, 11] 82 10 (by kernel_rfl) (hneed 82 (by kernel_rfl)))
   have hs1 := (XInv.reach hclo [78, 76, 71, 67, 60, 55, 51, 44, 39, 35, 31, 29] 82 28 (by kernel_rfl) (hneed 82 (by kernel_rfl)))
   have hs2 := (XInv.reach hclo [78, 76] 82 73 (by kernel_rfl) (hneed 82 (by kernel_rfl)))
   rw [if_pos hs2] at hW
   clear hcl hneed hclo
   intro Q2 K2 hK2
   simp only [XInv.puts, XPrint.pw]
   go_simp
   exact hK2.out (.bool true) w' ⟨bq, rfl, fun _ _ _ => rfl, (by rw [if_pos (by simp [XInv.up, hs2])]; exact hW)⟩
  ·refine XInv.yes_tab [(161, 84), (159, 82)] (by kernel_rfl) ?_
   have hs0 := (XInv.reach hclo [78, 76, 71, 67, 60, 55, 51, 44, 39, 35, 31, 29, 25, 21, 17, 13, 11] 82 10 (by kernel_rfl) (hneed 82 (by kernel_rfl)))
   have hs1 := (XInv.reach hclo [78, 76, 71, 67, 60, 55, 51, 44, 39, 35, 31, 29] 82 28 (by kernel_rfl) (hneed 82 (by kernel_rfl)))
   have hs2 := (XInv.reach hclo [78, 76] 82 73 (by kernel_rfl) (hneed 82 (by kernel_rfl)))
   rw [if_pos hs2] at hW
   clear hcl hneed hclo
   intro Q2 K2 hK2
   simp only [XInv.puts, XPrint.pw]
   go_simp
   exact hK2.out (.bool true) w' ⟨bq, rfl, fun _ _ _ => rfl, (by rw [if_pos (by simp [XInv.up, hs2])]; exact hW)⟩
  ·refine XInv.yes_tab [(162, 85), (161, 84), (160, 83), (159, 82), (158, 81), (157, 80), (156, 79), (155, 78), (154, 77), (153, 76), (152, 75), (151, 74), (150, 73), (149, 72), (148, 71), (147, 70), (146, 69), (145, 68), (144, 67), (143, 66), (142, 65), (141, 64), (140, 63), (139, 62), (138, 61), (137, 60), (136, 59), (135, 58), (134, 57), (133, 56), (132, 55), (131, 54), (130, 53), (129, 52), (128, 51), (127, 50), (126, 49), (125, 48), (124, 47), (123, 46), (122, 45), (121, 44), (120, 43), (119, 42), (118, 41), (117, 40), (116, 39), (115, 38), (114, 37), (113, 36), (112, 35), (111, 34), (110, 33), (109, 32), (108, 31), (107, 30), (106, 29), (105, 28), (104, 27), (103, 26), (102, 25), (101, 24), (100, 23), (99, 22), (98, 21), (97, 20), (96, 19), (95, 18), (94, 17), (93, 16), (92, 15), (91, 14), (90, 13), (89, 12), (88, 11), (87, 10), (86, 9), (85, 8), (84, 7), (83, 6), (82, 5), (81, 4), (80, 3), (79, 2), (78, 1), (77, 0)] (by kernel_rfl) ?_
   have hs0 := hneed 10 (by kernel_rfl)
   have hs1 := hneed 28 (by kernel_rfl)
   have hs2 := hneed 73 (by kernel_rfl)
   rw [if_pos hs2] at hW
   clear hcl hneed hclo
   intro Q2 K2 hK2
   simp only [XInv.puts, XPrint.pw] at hK2 ⊢
   go_simp
   exact hK2.out (.bool true) w' ⟨bq, rfl, fun _ _ _ => rfl, (by rw [if_pos (by simp [XInv.up, hs2])]; exact hW)⟩
 ·intro bq w' hW
  refine XInv.end_nil [(0, 86), (162, 85), (161, 84), (160, 83), (159, 82), (158, 81), (157, 80), (156, 79), (155, 78), (154, 77), (153, 76), (152, 75), (151, 74), (150, 73), (149, 72), (148, 71), (147, 70), (146, 69), (145, 68), (144, 67), (143, 66), (142, 65), (141, 64), (140, 63), (139, 62), (138, 61), (137, 60), (136, 59), (135, 58), (134, 57), (133, 56), (132, 55), (131, 54), (130, 53), (129, 52), (128, 51), (127, 50), (126, 49), (125, 48), (124, 47), (123, 46), (122, 45), (121, 44), (120, 43), (119, 42), (118, 41), (117, 40), (116, 39), (115, 38), (114, 37), (113, 36), (112, 35), (111, 34), (110, 33), (109, 32), (108, 31), (107, 30), (106, 29), (105, 28), (104, 27), (103, 26), (102, 25), (101, 24), (100, 23), (99, 22), (98, 21), (97, 20), (96, 19), (95, 18), (94, 17), (93, 16), (92, 15), (91, 14), (90, 13), (89, 12), (88, 11), (87, 10), (86, 9), (85, 8), (84, 7), (83, 6), (82, 5), (81, 4), (80, 3), (79, 2), (78, 1), (77, 0)] (by kernel_rfl) (by kernel_rfl) ?_
  simp only [XInv.puts, XPrint.pw]
  rw [if_pos (by kernel_rfl)] at hW
  have Z := Aside0.mk hW.1
  clear hW
  go_wp2
  go_ret
  exact ⟨rfl, below_step X.out.below Z.out⟩
theorem dnew_no (u0 u1 : Int) (w : World) (hu : ¬ okV 1 ⟨u0, u1⟩) :
  Calls Tryz.prog 24 #[.agg #[.int .i64 u0, .int .i64 u1]] w fun e w' => ∃ vn, e = .returned (.tuple #[dv 0 0 vn (.slice none 0 0) 0, .int .i64 2]) ∧ RNd w' w.heap.size (fun _ => True) vn [] ∧ Below w.heap.size w w' := by
 have hu118 := Tryz.underlying37
 have hu31 := Tryz.underlying33
 have hu23 := Tryz.underlying23
 have NF := rin_f u0 u1 1
 rw [decide_eq_false hu] at NF
 obtain ⟨W0, hW0⟩ : ∃ W0, (w.alloc (.cells #[.int .i64 u0, .int .i64 u1] 23)).alloc (db 0 0 (.slice none 0 0) (.slice none 0 0) 0) = W0 := ⟨_, rfl⟩
 have hB0 : Below w.heap.size w W0 := by rw [← hW0]; exact below_alloc (below_alloc (Below.refl _ _) _) _
 have k1 : W0.heap[w.heap.size + 1]? = some (.cells #[.int .i64 0, .int .i64 0, .slice none 0 0, .slice none 0 0, .int .u32 0] LT (0, 0)) := by
  have := blk_new (w.alloc (.cells #[.int .i64 u0, .int .i64 u1] 23)) (db 0 0 (.slice none 0 0) (.slice none 0 0) 0)
  rw [World.size_alloc] at this
  rw [← hW0]; exact this
 have k0 : W0.heap[w.heap.size]? = some (.cells #[.int .i64 u0, .int .i64 u1] 23 (0, 0)) := by rw [← hW0]; exact blk_alloc (blk_new w _) _
 have q0 := (blk_cell k0 0).trans rfl
 have q1 := (blk_cell k0 1).trans rfl
 have NC := Aside0.mk (rnewC u0 u1 0 0 2 false W0 NF (by rw [if_neg (by decide)]; exact ⟨rfl, rfl, rfl⟩))
 have H := Aside0.mk (And.intro hB0 (And.intro k1 hW0))
 clear hu NF hB0 k0 k1 hW0
 go_enter Tryz.func24, Tryz.ntmps24
 go_wp2_with fail
 rw [H.out.2.2]
 go_wp2_with fail
 refine NC.out.mono ?_
 rintro e w1 ⟨v2, rfl, hR, hb⟩
 obtain ⟨A2, c2, rfl⟩ := Kd.R_slice hR
 dsimp only [List.length_nil] at hR ⊢
 have X := Aside0.mk (And.intro hR hb)
 clear q0 q1 hR hb NC
 go_upto_region 2 with (fail)
 obtain ⟨w2, hw2⟩ : ∃ w2, w1.alloc (.cells #[.int .i64 0, .int .i64 0, .slice A2 0 c2] 33) = w2 := ⟨_, rfl⟩
 have hb2 : Below w1.heap.size w1 w2 := by rw [← hw2]; exact below_alloc (Below.refl _ _) _
 have kz : w2.heap[w1.heap.size]? = some (.cells #[.int .i64 0, .int .i64 0, .slice A2 0 c2] 33 (0, 0)) := by rw [← hw2]; exact blk_new w1 _
 have k1 := blk_below (blk_below H.out.2.1 X.out.2) hb2
 rw [hw2]
 have Z := Aside0.mk (And.intro hb2 k1)
 have m0 := (blk_cell kz 0).trans rfl
 have m1 := (blk_cell kz 1).trans rfl
 have m2 := (blk_cell kz 2).trans rfl
 have r0 := (blk_cell k1 0).trans rfl
 have r1 := (blk_cell k1 1).trans rfl
 have r2 := (blk_cell k1 2).trans rfl
 have r3 := (blk_cell k1 3).trans rfl
 have r4 := (blk_cell k1 4).trans rfl
 have g0 := blk_frozen k1 0
 have g1 := blk_frozen k1 1
 have g2 := blk_frozen k1 2
 have g3 := blk_frozen k1 3
 have g4 := blk_frozen k1 4
 clear hw2 hb2 kz k1
 go_wp2
 have z0 := set5 (b0 := .int .i64 0) (b1 := .int .i64 0) (b2 := .slice A2 0 c2) (b3 := .slice none 0 0) (b4 := .int .u32 0) Z.out.2
 have y0 := (blk_cell z0 0).trans rfl
 have y1 := (blk_cell z0 1).trans rfl
 have y2 := (blk_cell z0 2).trans rfl
 have y3 := (blk_cell z0 3).trans rfl
 have y4 := (blk_cell z0 4).trans rfl
 have hs := H.out.1.size
 have hlt := blk_lt H.out.2.1
 have FIN := Aside0.mk (but5T (But.refl (fun k => k = w.heap.size + 1) w2) (q := w.heap.size + 1) rfl (.int .i64 0) (.int .i64 0) (.slice A2 0 c2) (.slice none 0 0) (.int .u32 0))
 refine bodyPost_ret (v := .tuple #[dv 0 0 (.slice A2 0 c2) (.slice none 0 0) 0, .int .i64 2]) (by simp [results, Tryz.results24, go_sem, dv, y0, y1, y2, y3, y4]) rfl ⟨.slice A2 0 c2, rfl, ?_, ?_⟩
 ·exact Kd.R_mono (Kd.R_lower (Kd.R_step (Kd.R_below (Kd.R_bound X.out.1) Z.out.1) (fun k hk hlt => FIN.out.block k hlt (by have := hk.2.1; omega))) hs) (fun _ _ => trivial)
 ·exact But.below (below_then H.out.1 H.out.1.size (below_step X.out.2 Z.out.1)) (Nat.le_refl _) FIN.out (fun k hk => by omega)
abbrev PB := ((Option Addr × Nat) × (Option Addr × Nat)) × Nat
structure PW (w0 Wr : World) (p b g q : Nat) (u0 u1 : Int) (ns2 : List Nd) (bx2 : List Bx) (la2 : Int) (nn2 nb2 : Nat) (old : Obj) (bq : PB) (l : Nat → Bool) (w' : World) : Prop where
 before : l 6 = false → Below Wr.heap.size Wr w'
 size : Wr.heap.size ≤ w'.heap.size
 behind : l 6 = true → ∃ v1 okn1, DS w0 w' p b g u0 u1 ns2 v1 bx2 la2 (.slice bq.1.1.1 nn2 bq.1.1.2) (.slice bq.1.2.1 nb2 bq.1.2.2) okn1 ∧ ¬ May2 p g v1 (.slice bq.1.2.1 nb2 bq.1.2.2) okn1 q ∧ w'.heap[q]? = some old ∧ (l 10 = true → ¬ May2 p g v1 (.slice bq.1.2.1 nb2 bq.1.2.2) okn1 bq.2)
 blk : l 10 = true → l 11 = false → Wr.heap.size ≤ bq.2 ∧ ∃ a0 a1 a2 a3 a4, w'.heap[bq.2]? = some (.cells #[a0, a1, a2, a3, a4] LT (0, 0))
 done : l 11 = true → Wr.heap.size ≤ bq.2 ∧ w'.heap[bq.2]? = some (.cells #[.int .i64 u0, .int .i64 u1, .slice bq.1.1.1 nn2 bq.1.1.2, .slice bq.1.2.1 nb2 bq.1.2.2, .int .u32 la2] LT (0, 0))
section
variable {w0 Wr w' w1 : World} {p b g q : Nat} {u0 u1 : Int} {ns2 : List Nd} {bx2 : List Bx} {la2 : Int} {nn2 nb2 : Nat} {old : Obj} {bq : PB} {l : Nat → Bool}
theorem PW.up (h : PW w0 Wr p b g q u0 u1 ns2 bx2 la2 nn2 nb2 old bq l w') (j : Nat) (hj : j ≠ 6 ∧ j ≠ 10 ∧ j ≠ 11) : PW w0 Wr p b g q u0 u1 ns2 bx2 la2 nn2 nb2 old bq (XInv.up l j) w' := by
 have e : ∀ k, k ≠ j → XInv.up l j k = l k := fun k hk => by unfold XInv.up; rw [if_neg hk]
 have e6 := e 6 (by omega)
 have e10 := e 10 (by omega)
 have e11 := e 11 (by omega)
 refine ⟨fun h6 => h.before (by rwa [e6] at h6), h.size, fun h6 => ?_, fun h10 h11 => h.blk (by rwa [e10] at h10) (by rwa [e11] at h11), fun h11 => h.done (by rwa [e11] at h11)⟩
 rw [e6] at h6
 rw [e10]
 exact h.behind h6
theorem PW.s6 (h : PW w0 Wr p b g q u0 u1 ns2 bx2 la2 nn2 nb2 old bq l w') (h6 : l 6 = false) (h11 : l 11 = false) {M : Nat → Prop} (hM : ∀ k, M k → k < Wr.heap.size) {v1 : Value} {okn1 : Nat → Prop} {a1 a2 : Option Addr} {c1 c2 : Nat} (hb : But M w' w1) (hD : DS w0 w1 p b g u0 u1 ns2 v1 bx2 la2 (.slice a1 nn2 c1) (.slice a2 nb2 c2) okn1) (ho : ∀ k, May2 p g v1 (.slice a2 nb2 c2) okn1 k → M k ∨ w'.heap.size ≤ k) (hqM : ¬ M q) (hqo : Wr.heap[q]? = some old) : PW w0 Wr p b g q u0 u1 ns2 bx2 la2 nn2 nb2 old (((a1, c1), (a2, c2)), bq.2) (XInv.up l 6) w1 := by
 have hq := blk_lt hqo
 have hs := hb.size
 have hz := h.size
 have e10 : XInv.up l 6 10 = l 10 := rfl
 have e11 : XInv.up l 6 11 = l 11 := rfl
 refine ⟨fun e => by simp [XInv.up] at e, by omega, fun _ => ⟨v1, okn1, hD, fun hm => ?_, hb.heap (blk_below hqo (h.before h6)) hqM, fun h10 hm => ?_⟩, fun h10 _ => ?_, fun e => by rw [e11, h11] at e; cases e⟩
 ·rcases ho q hm with e | e
  ·exact hqM e
  ·omega
 ·obtain ⟨r1, a0, a1, a2, a3, a4, r2⟩ := h.blk (by rwa [e10] at h10) h11
  have := blk_lt r2
  rcases ho _ hm with e | e
  ·have := hM _ e
   dsimp only at this
   omega
  ·dsimp only at e
   omega
 ·obtain ⟨r1, a0, a1, a2, a3, a4, r2⟩ := h.blk (by rwa [e10] at h10) h11
  exact ⟨r1, a0, a1, a2, a3, a4, hb.heap r2 (fun e => by have := hM _ e; omega)⟩
theorem PW.s10 (h : PW w0 Wr p b g q u0 u1 ns2 bx2 la2 nn2 nb2 old bq l w') (h11 : l 11 = false) (o0 o1 o2 o3 o4 : Value) (hw : w1 = w'.alloc (.cells #[o0, o1, o2, o3, o4] LT)) : PW w0 Wr p b g q u0 u1 ns2 bx2 la2 nn2 nb2 old (bq.1, w'.heap.size) (XInv.up l 10) w1 := by
 have hb : Below w'.heap.size w' w1 := by rw [hw]; exact below_alloc (Below.refl _ _) _
 have hs := hb.size
 have hz := h.size
 have e6 : XInv.up l 10 6 = l 6 := rfl
 have e11 : XInv.up l 10 11 = l 11 := rfl
 refine ⟨fun e => below_step (h.before (by rwa [e6] at e)) hb, by omega, fun e => ?_, fun _ _ => ⟨hz, o0, o1, o2, o3, o4, by rw [hw]; exact blk_new w' _⟩, fun e => by rw [e11, h11] at e; cases e⟩
 obtain ⟨v1, okn1, d1, d2, d3, _⟩ := h.behind (by rwa [e6] at e)
 refine ⟨v1, okn1, d1.same hb, d2, blk_below d3 hb, fun _ hm => ?_⟩
 have := d1.lt _ hm
 dsimp only at this
 omega
theorem PW.s11 (h : PW w0 Wr p b g q u0 u1 ns2 bx2 la2 nn2 nb2 old bq l w') (h6 : l 6 = true) (h10 : l 10 = true) (h11 : l 11 = false) (h0 : w0.heap.size ≤ Wr.heap.size) (hbl : b < Wr.heap.size) (hql : q < Wr.heap.size)
  (hw : w1 = ((((w'.setCell ⟨bq.2, 0, none⟩ (.int .i64 u0)).setCell ⟨bq.2, 1, none⟩ (.int .i64 u1)).setCell ⟨bq.2, 2, none⟩ (.slice bq.1.1.1 nn2 bq.1.1.2)).setCell ⟨bq.2, 3, none⟩ (.slice bq.1.2.1 nb2 bq.1.2.2)).setCell ⟨bq.2, 4, none⟩ (.int .u32 la2)) : PW w0 Wr p b g q u0 u1 ns2 bx2 la2 nn2 nb2 old bq (XInv.up l 11) w1 := by
 obtain ⟨r1, a0, a1, a2, a3, a4, r2⟩ := h.blk h10 h11
 obtain ⟨v1, okn1, d1, d2, d3, d4⟩ := h.behind h6
 have hm := d4 h10
 have hb : But (fun k => k = bq.2) w' w1 := by rw [hw]; exact but5T (But.refl (fun k => k = bq.2) w') (q := bq.2) rfl _ _ _ _ _
 have hz := h.size
 have hs := hb.size
 have e6 : XInv.up l 11 6 = l 6 := rfl
 refine ⟨fun e => (by rw [e6, h6] at e; cases e), by omega, fun _ => ⟨v1, okn1, d1.put hb (by omega) (fun e => hm (.inl e)) (by omega) (fun e => hm (.inr (.inl e))) (fun e => hm (.inr (.inr e))), d2, hb.heap d3 (by omega), fun _ => hm⟩, fun _ e => (by simp [XInv.up] at e), fun _ => ⟨r1, by rw [hw]; exact set5 r2⟩⟩
end
end Go.Proofs.YthibppfdonepoaaGreat.LedT
