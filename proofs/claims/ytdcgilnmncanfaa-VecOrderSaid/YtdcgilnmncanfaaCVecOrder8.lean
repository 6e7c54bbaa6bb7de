-- printed by this session's own driver over the kit's printer: Lean checks it
import Derived.Test.YtdcgilnmncanfaaCVecOrder0
import Derived.Test.YtdcgilnmncanfaaCVecOrder1
import Derived.Test.YtdcgilnmncanfaaCVecOrder2
import Derived.Test.YtdcgilnmncanfaaCVecOrder3
import Derived.Test.YtdcgilnmncanfaaCVecOrder4
import Derived.Test.YtdcgilnmncanfaaCVecOrder5
import Derived.Test.YtdcgilnmncanfaaCVecOrder6
import Derived.Test.YtdcgilnmncanfaaCVecOrder7
namespace Go.Proofs.Ytdcgilnmncanfaa.PVecOrder
open Go.RowKit Go.Proofs.YtdcgilnmncanfaaW.PrintWords Go.Proofs.YtdcgilnmncanfaaW.PrintLast Go.Proofs.YtdcgilnmncanfaaW.PrintMore
attribute [local go_sem] max2_int min2_int max_two min_two max_three min_three max_four min_four   -- for this text's walks alone
set_option linter.unusedVariables false
set_option linter.unusedSimpArgs false

attribute [local go_sem high] eqA23
/-! ### liverylaw01_head: function 28 -/
def liverylaw01_head.f (k : Nat)  : Option (Bool) := (liverylaw01_of.f 1 2).bind fun bt207 => ((liverylaw01_of.f 3 (-5)).bind fun bt209 => ((vec_Add.f k (([(⟨bt207.1, bt207.2⟩ : S23), (⟨bt209.1, bt209.2⟩ : S23)] : List (S23)))).bind fun bt214 => ((liverylaw01_of.f 1 2).bind fun bt218 => ((liverylaw01_of.f 3 (-5)).bind fun bt220 => ((vec_Sub.f k bt218.1 bt218.2 bt220.1 bt220.2).bind fun bt222 => ((liverylaw01_of.f 2 (-3)).bind fun bt226 => ((vec_Scale.f bt226.1 bt226.2 4).bind fun bt228 => ((liverylaw01_of.f 1125899906842624 0).bind fun bt232 => ((liverylaw01_of.f 1 0).bind fun bt234 => ((vec_Add.f k (([(⟨bt232.1, bt232.2⟩ : S23), (⟨bt234.1, bt234.2⟩ : S23)] : List (S23)))).bind fun bt239 => ((liverylaw01_of.f 562949953421312 0).bind fun bt243 => ((vec_Scale.f bt243.1 bt243.2 3).bind fun bt245 => ((liverylaw01_of.f 10 7).bind fun bt249 => ((liverylaw01_of.f 3 2).bind fun bt251 => ((vec_Units.f k bt249.1 bt249.2 bt251.1 bt251.2).bind fun bt253 => ((liverylaw01_of.f (-1) 9).bind fun bt255 => ((liverylaw01_of.f 1 1).bind fun bt257 => ((vec_Units.f k bt255.1 bt255.2 bt257.1 bt257.2).bind fun bt259 => ((liverylaw01_of.f 1 1).bind fun bt261 => ((liverylaw01_of.f 0 1).bind fun bt263 => ((vec_Units.f k bt261.1 bt261.2 bt263.1 bt263.2).bind fun bt265 => ((liverylaw01_of.f 4 (-3)).bind fun bt267 => (if (bt214.1 == bt267.1 && (bt214.2.1 == bt267.2)) = true then (if bt214.2.2 = 0 then ((liverylaw01_of.f (-2) 7).bind fun bt269 => (if (bt222.1 == bt269.1 && (bt222.2.1 == bt269.2)) = true then (if bt222.2.2 = 0 then ((liverylaw01_of.f 8 (-12)).bind fun bt271 => (if (bt228.1 == bt271.1 && (bt228.2.1 == bt271.2)) = true then (if bt228.2.2 = 0 then (if bt239.2.2 = 10 then (if bt245.2.2 = 10 then ((liverylaw01_of.f 1 5).bind fun bt273 => ((liverylaw01_of.f 3 2).bind fun bt275 => ((vec_Min.f bt273.1 bt273.2 bt275.1 bt275.2).bind fun bt277 => ((liverylaw01_of.f 1 2).bind fun bt279 => (if (bt277.1 == bt279.1 && (bt277.2 == bt279.2)) = true then ((liverylaw01_of.f 1 5).bind fun bt281 => ((liverylaw01_of.f 3 2).bind fun bt283 => ((vec_Max.f bt281.1 bt281.2 bt283.1 bt283.2).bind fun bt285 => ((liverylaw01_of.f 3 5).bind fun bt287 => (if (bt285.1 == bt287.1 && (bt285.2 == bt287.2)) = true then ((liverylaw01_of.f 1 2).bind fun bt289 => ((liverylaw01_of.f 1 3).bind fun bt291 => ((vec_LE.f bt289.1 bt289.2 bt291.1 bt291.2).bind fun t293 => (if t293 = true then ((liverylaw01_of.f 1 4).bind fun bt294 => ((liverylaw01_of.f 2 3).bind fun bt296 => ((vec_LE.f bt294.1 bt294.2 bt296.1 bt296.2).bind fun t298 => (if t298 = true then (none) else (if bt253.1 = 3 then (if bt253.2 = 0 then (if bt259.1 = 0 then (if bt259.2 = 0 then (some (bt265.2 == 2)) else (none)) else (none)) else (none)) else (none)))))) else (none))))) else (none)))))) else (none)))))) else (none)) else (none)) else (none)) else (none))) else (none)) else (none))) else (none)) else (none))))))))))))))))))))))))
theorem liverylaw01_head.mono : ∀ k, LeO (liverylaw01_head.f k ) (liverylaw01_head.f (k + 1) ) := by
 intro  k
 unfold liverylaw01_head.f
 repeat' first
   | (with_reducible exact vec_Add.mono _ _)
   | (with_reducible exact vec_Sub.mono _ _ _ _ _)
   | (with_reducible exact vec_Units.mono _ _ _ _ _)
   | (with_reducible exact LeO.refl _)
   | (with_reducible exact LeO.none _)
   | (with_reducible refine LeO.ite ?_ ?_)
   | (with_reducible refine LeO.bind ?_ (fun _ => ?_))
   | exact vec_Add.mono _ _
   | exact vec_Sub.mono _ _ _ _ _
   | exact vec_Units.mono _ _ _ _ _
   | exact LeO.none _
   | refine LeO.ite ?_ ?_
   | refine LeO.bind ?_ (fun _ => ?_)
def liverylaw01_head.T9 : Bool × List (List Nat × List Nat) := (true, [([], []), ([], []), ([0, 1], [0, 1]), ([2, 1], [2]), ([3], [3]), ([4, 3], [3, 4]), ([3, 5], [3, 5]), ([6, 3], [6]), ([7], [7]), ([7, 7], [7]), ([8, 9, 7], [7, 8, 9]), ([7, 10], [7, 10]), ([11, 9], [11]), ([12], [12]), ([13, 12], [12, 13]), ([12, 14], [12, 14]), ([15, 12], [15]), ([16], [16]), ([16, 16], [16]), ([17, 18, 16], [16, 17, 18]), ([16, 19], [16, 19]), ([20, 18], [20]), ([21], [21]), ([22, 21], [21, 22]), ([21, 23], [21, 23]), ([24, 21], [24]), ([25], [25]), ([26, 25], [25, 26]), ([25, 27], [25, 27]), ([28, 25], [28]), ([29], [29]), ([30, 29], [29, 30]), ([29, 31], [29, 31]), ([32, 29], [32]), ([33, 33], [33]), ([34, 33], [33]), ([34, 35, 35, 33], [33, 34, 35]), ([36, 33], [33]), ([36, 37, 33], [33, 36, 37]), ([33, 38], [33, 38]), ([39, 37], [39]), ([40, 40], [40]), ([41, 40], [40]), ([41, 42, 42, 40], [40, 41, 42]), ([43, 40], [40]), ([43, 44, 40], [40, 43, 44]), ([40, 45], [40, 45]), ([46, 44], [46]), ([47, 47], [47]), ([48, 47], [47]), ([48, 49, 49, 47], [47, 48, 49]), ([47, 50], [47, 50]), ([51, 50], [51]), ([52, 52], [52]), ([53, 52], [52]), ([53, 54, 54, 52], [52, 53, 54]), ([55, 52], [52, 55]), ([52, 56], [52, 56]), ([57, 55], [57]), ([58], [58]), ([59, 58], [58, 59]), ([58, 60], [58, 60]), ([61, 58], [61]), ([62], [62]), ([63, 62], [62, 63]), ([62, 64], [62, 64]), ([65, 62], [65]), ([66], [66]), ([67, 66], [66, 67]), ([66, 68], [66, 68]), ([69, 66], [69]), ([70], [70]), ([71, 70], [70, 71]), ([70, 72], [70, 72]), ([73, 70], [73]), ([74], [74]), ([75, 74], [74, 75]), ([74, 76], [74, 76]), ([77, 74, 0, 1, 2, 3, 4, 5, 6, 7, 8, 9, 10, 11, 12, 13, 14, 15, 16, 17, 18, 19, 20, 21, 22, 23, 24, 25, 26, 27, 28, 29, 30, 31, 32, 33, 34, 35, 36, 37, 38, 39, 40, 41, 42, 43, 44, 45, 46, 47, 48, 49, 50, 51, 52, 53, 54, 55, 56, 57, 58, 59, 60, 61, 62, 63, 64, 65, 66, 67, 68, 69, 70, 71, 72, 73, 74, 75, 76, 77], [77])])
def liverylaw01_head.B9 : List Nat := [0, 0, 3, 7, 15, 31, 63, 127, 255, 255, 1023, 2047, 4095, 8191, 16383, 32767, 65535, 131071, 131071, 524287, 1048575, 2097151, 4194303, 8388607, 16777215, 33554431, 67108863, 134217727, 268435455, 536870911, 1073741823, 2147483647, 4294967295, 8589934591, 17179869183, 34359738367, 68719476735, 137438953471, 274877906943, 549755813887, 1099511627775, 2199023255551, 4398046511103, 8796093022207, 17592186044415, 35184372088831, 70368744177663, 140737488355327, 281474976710655, 562949953421311, 1125899906842623, 2251799813685247, 4503599627370495, 9007199254740991, 18014398509481983, 36028797018963967, 72057594037927935, 144115188075855871, 288230376151711743, 576460752303423487, 1152921504606846975, 2305843009213693951, 4611686018427387903, 9223372036854775807, 18446744073709551615, 36893488147419103231, 73786976294838206463, 147573952589676412927, 295147905179352825855, 590295810358705651711, 1180591620717411303423, 2361183241434822606847, 4722366482869645213695, 9444732965739290427391, 18889465931478580854783, 37778931862957161709567, 75557863725914323419135, 151115727451828646838271, 302231454903657293676543]
theorem liverylaw01_head.tab9 : rtab .any (opsOf Try.f28 9) = liverylaw01_head.T9 := by kernel_rfl
theorem liverylaw01_head.bits9 : waitsOk liverylaw01_head.T9.2 liverylaw01_head.B9 = true := by kernel_rfl
set_option maxHeartbeats 8000000 in
set_option maxRecDepth 100000 in
theorem liverylaw01_head.calls (k : Nat)  (r : Bool) (w : World) (h : liverylaw01_head.f k  = some r) :
  Calls Try.prog 28 #[] w fun e w' => e = .returned (.bool r) ∧ Below w.heap.size w w' := by
 have hu23 := Try.underlying23
 have HB := XPrint.A0 (Below.refl w.heap.size w)
 have H : ((liverylaw01_of.f 1 2).bind fun bt207 => ((liverylaw01_of.f 3 (-5)).bind fun bt209 => ((vec_Add.f k (([(⟨bt207.1, bt207.2⟩ : S23), (⟨bt209.1, bt209.2⟩ : S23)] : List (S23)))).bind fun bt214 => ((liverylaw01_of.f 1 2).bind fun bt218 => ((liverylaw01_of.f 3 (-5)).bind fun bt220 => ((vec_Sub.f k bt218.1 bt218.2 bt220.1 bt220.2).bind fun bt222 => ((liverylaw01_of.f 2 (-3)).bind fun bt226 => ((vec_Scale.f bt226.1 bt226.2 4).bind fun bt228 => ((liverylaw01_of.f 1125899906842624 0).bind fun bt232 => ((liverylaw01_of.f 1 0).bind fun bt234 => ((vec_Add.f k (([(⟨bt232.1, bt232.2⟩ : S23), (⟨bt234.1, bt234.2⟩ : S23)] : List (S23)))).bind fun bt239 => ((liverylaw01_of.f 562949953421312 0).bind fun bt243 => ((vec_Scale.f bt243.1 bt243.2 3).bind fun bt245 => ((liverylaw01_of.f 10 7).bind fun bt249 => ((liverylaw01_of.f 3 2).bind fun bt251 => ((vec_Units.f k bt249.1 bt249.2 bt251.1 bt251.2).bind fun bt253 => ((liverylaw01_of.f (-1) 9).bind fun bt255 => ((liverylaw01_of.f 1 1).bind fun bt257 => ((vec_Units.f k bt255.1 bt255.2 bt257.1 bt257.2).bind fun bt259 => ((liverylaw01_of.f 1 1).bind fun bt261 => ((liverylaw01_of.f 0 1).bind fun bt263 => ((vec_Units.f k bt261.1 bt261.2 bt263.1 bt263.2).bind fun bt265 => ((liverylaw01_of.f 4 (-3)).bind fun bt267 => (if (bt214.1 == bt267.1 && (bt214.2.1 == bt267.2)) = true then (if bt214.2.2 = 0 then ((liverylaw01_of.f (-2) 7).bind fun bt269 => (if (bt222.1 == bt269.1 && (bt222.2.1 == bt269.2)) = true then (if bt222.2.2 = 0 then ((liverylaw01_of.f 8 (-12)).bind fun bt271 => (if (bt228.1 == bt271.1 && (bt228.2.1 == bt271.2)) = true then (if bt228.2.2 = 0 then (if bt239.2.2 = 10 then (if bt245.2.2 = 10 then ((liverylaw01_of.f 1 5).bind fun bt273 => ((liverylaw01_of.f 3 2).bind fun bt275 => ((vec_Min.f bt273.1 bt273.2 bt275.1 bt275.2).bind fun bt277 => ((liverylaw01_of.f 1 2).bind fun bt279 => (if (bt277.1 == bt279.1 && (bt277.2 == bt279.2)) = true then ((liverylaw01_of.f 1 5).bind fun bt281 => ((liverylaw01_of.f 3 2).bind fun bt283 => ((vec_Max.f bt281.1 bt281.2 bt283.1 bt283.2).bind fun bt285 => ((liverylaw01_of.f 3 5).bind fun bt287 => (if (bt285.1 == bt287.1 && (bt285.2 == bt287.2)) = true then ((liverylaw01_of.f 1 2).bind fun bt289 => ((liverylaw01_of.f 1 3).bind fun bt291 => ((vec_LE.f bt289.1 bt289.2 bt291.1 bt291.2).bind fun t293 => (if t293 = true then ((liverylaw01_of.f 1 4).bind fun bt294 => ((liverylaw01_of.f 2 3).bind fun bt296 => ((vec_LE.f bt294.1 bt294.2 bt296.1 bt296.2).bind fun t298 => (if t298 = true then (none) else (if bt253.1 = 3 then (if bt253.2 = 0 then (if bt259.1 = 0 then (if bt259.2 = 0 then (some (bt265.2 == 2)) else (none)) else (none)) else (none)) else (none)))))) else (none))))) else (none)))))) else (none)))))) else (none)) else (none)) else (none)) else (none))) else (none)) else (none))) else (none)) else (none))))))))))))))))))))))))) = some r := h
 clear h
 replace H := Option.bind_eq_some_iff.mp H
 obtain ⟨⟨t207, t208⟩, A10, H⟩ := H
 replace H : ((liverylaw01_of.f 3 (-5)).bind fun bt209 => ((vec_Add.f k (([(⟨t207, t208⟩ : S23), (⟨bt209.1, bt209.2⟩ : S23)] : List (S23)))).bind fun bt214 => ((liverylaw01_of.f 1 2).bind fun bt218 => ((liverylaw01_of.f 3 (-5)).bind fun bt220 => ((vec_Sub.f k bt218.1 bt218.2 bt220.1 bt220.2).bind fun bt222 => ((liverylaw01_of.f 2 (-3)).bind fun bt226 => ((vec_Scale.f bt226.1 bt226.2 4).bind fun bt228 => ((liverylaw01_of.f 1125899906842624 0).bind fun bt232 => ((liverylaw01_of.f 1 0).bind fun bt234 => ((vec_Add.f k (([(⟨bt232.1, bt232.2⟩ : S23), (⟨bt234.1, bt234.2⟩ : S23)] : List (S23)))).bind fun bt239 => ((liverylaw01_of.f 562949953421312 0).bind fun bt243 => ((vec_Scale.f bt243.1 bt243.2 3).bind fun bt245 => ((liverylaw01_of.f 10 7).bind fun bt249 => ((liverylaw01_of.f 3 2).bind fun bt251 => ((vec_Units.f k bt249.1 bt249.2 bt251.1 bt251.2).bind fun bt253 => ((liverylaw01_of.f (-1) 9).bind fun bt255 => ((liverylaw01_of.f 1 1).bind fun bt257 => ((vec_Units.f k bt255.1 bt255.2 bt257.1 bt257.2).bind fun bt259 => ((liverylaw01_of.f 1 1).bind fun bt261 => ((liverylaw01_of.f 0 1).bind fun bt263 => ((vec_Units.f k bt261.1 bt261.2 bt263.1 bt263.2).bind fun bt265 => ((liverylaw01_of.f 4 (-3)).bind fun bt267 => (if (bt214.1 == bt267.1 && (bt214.2.1 == bt267.2)) = true then (if bt214.2.2 = 0 then ((liverylaw01_of.f (-2) 7).bind fun bt269 => (if (bt222.1 == bt269.1 && (bt222.2.1 == bt269.2)) = true then (if bt222.2.2 = 0 then ((liverylaw01_of.f 8 (-12)).bind fun bt271 => (if (bt228.1 == bt271.1 && (bt228.2.1 == bt271.2)) = true then (if bt228.2.2 = 0 then (if bt239.2.2 = 10 then (if bt245.2.2 = 10 then ((liverylaw01_of.f 1 5).bind fun bt273 => ((liverylaw01_of.f 3 2).bind fun bt275 => ((vec_Min.f bt273.1 bt273.2 bt275.1 bt275.2).bind fun bt277 => ((liverylaw01_of.f 1 2).bind fun bt279 => (if (bt277.1 == bt279.1 && (bt277.2 == bt279.2)) = true then ((liverylaw01_of.f 1 5).bind fun bt281 => ((liverylaw01_of.f 3 2).bind fun bt283 => ((vec_Max.f bt281.1 bt281.2 bt283.1 bt283.2).bind fun bt285 => ((liverylaw01_of.f 3 5).bind fun bt287 => (if (bt285.1 == bt287.1 && (bt285.2 == bt287.2)) = true then ((liverylaw01_of.f 1 2).bind fun bt289 => ((liverylaw01_of.f 1 3).bind fun bt291 => ((vec_LE.f bt289.1 bt289.2 bt291.1 bt291.2).bind fun t293 => (if t293 = true then ((liverylaw01_of.f 1 4).bind fun bt294 => ((liverylaw01_of.f 2 3).bind fun bt296 => ((vec_LE.f bt294.1 bt294.2 bt296.1 bt296.2).bind fun t298 => (if t298 = true then (none) else (if bt253.1 = 3 then (if bt253.2 = 0 then (if bt259.1 = 0 then (if bt259.2 = 0 then (some (bt265.2 == 2)) else (none)) else (none)) else (none)) else (none)))))) else (none))))) else (none)))))) else (none)))))) else (none)) else (none)) else (none)) else (none))) else (none)) else (none))) else (none)) else (none)))))))))))))))))))))))) = some r := H
 have A1 := XPrint.A0 A10
 clear A10
 replace H := Option.bind_eq_some_iff.mp H
 obtain ⟨⟨t209, t210⟩, A20, H⟩ := H
 replace H : ((vec_Add.f k (([(⟨t207, t208⟩ : S23), (⟨t209, t210⟩ : S23)] : List (S23)))).bind fun bt214 => ((liverylaw01_of.f 1 2).bind fun bt218 => ((liverylaw01_of.f 3 (-5)).bind fun bt220 => ((vec_Sub.f k bt218.1 bt218.2 bt220.1 bt220.2).bind fun bt222 => ((liverylaw01_of.f 2 (-3)).bind fun bt226 => ((vec_Scale.f bt226.1 bt226.2 4).bind fun bt228 => ((liverylaw01_of.f 1125899906842624 0).bind fun bt232 => ((liverylaw01_of.f 1 0).bind fun bt234 => ((vec_Add.f k (([(⟨bt232.1, bt232.2⟩ : S23), (⟨bt234.1, bt234.2⟩ : S23)] : List (S23)))).bind fun bt239 => ((liverylaw01_of.f 562949953421312 0).bind fun bt243 => ((vec_Scale.f bt243.1 bt243.2 3).bind fun bt245 => ((liverylaw01_of.f 10 7).bind fun bt249 => ((liverylaw01_of.f 3 2).bind fun bt251 => ((vec_Units.f k bt249.1 bt249.2 bt251.1 bt251.2).bind fun bt253 => ((liverylaw01_of.f (-1) 9).bind fun bt255 => ((liverylaw01_of.f 1 1).bind fun bt257 => ((vec_Units.f k bt255.1 bt255.2 bt257.1 bt257.2).bind fun bt259 => ((liverylaw01_of.f 1 1).bind fun bt261 => ((liverylaw01_of.f 0 1).bind fun bt263 => ((vec_Units.f k bt261.1 bt261.2 bt263.1 bt263.2).bind fun bt265 => ((liverylaw01_of.f 4 (-3)).bind fun bt267 => (if (bt214.1 == bt267.1 && (bt214.2.1 == bt267.2)) = true then (if bt214.2.2 = 0 then ((liverylaw01_of.f (-2) 7).bind fun bt269 => (if (bt222.1 == bt269.1 && (bt222.2.1 == bt269.2)) = true then (if bt222.2.2 = 0 then ((liverylaw01_of.f 8 (-12)).bind fun bt271 => (if (bt228.1 == bt271.1 && (bt228.2.1 == bt271.2)) = true then (if bt228.2.2 = 0 then (if bt239.2.2 = 10 then (if bt245.2.2 = 10 then ((liverylaw01_of.f 1 5).bind fun bt273 => ((liverylaw01_of.f 3 2).bind fun bt275 => ((vec_Min.f bt273.1 bt273.2 bt275.1 bt275.2).bind fun bt277 => ((liverylaw01_of.f 1 2).bind fun bt279 => (if (bt277.1 == bt279.1 && (bt277.2 == bt279.2)) = true then ((liverylaw01_of.f 1 5).bind fun bt281 => ((liverylaw01_of.f 3 2).bind fun bt283 => ((vec_Max.f bt281.1 bt281.2 bt283.1 bt283.2).bind fun bt285 => ((liverylaw01_of.f 3 5).bind fun bt287 => (if (bt285.1 == bt287.1 && (bt285.2 == bt287.2)) = true then ((liverylaw01_of.f 1 2).bind fun bt289 => ((liverylaw01_of.f 1 3).bind fun bt291 => ((vec_LE.f bt289.1 bt289.2 bt291.1 bt291.2).bind fun t293 => (if t293 = true then ((liverylaw01_of.f 1 4).bind fun bt294 => ((liverylaw01_of.f 2 3).bind fun bt296 => ((vec_LE.f bt294.1 bt294.2 bt296.1 bt296.2).bind fun t298 => (if t298 = true then (none) else (if bt253.1 = 3 then (if bt253.2 = 0 then (if bt259.1 = 0 then (if bt259.2 = 0 then (some (bt265.2 == 2)) else (none)) else (none)) else (none)) else (none)))))) else (none))))) else (none)))))) else (none)))))) else (none)) else (none)) else (none)) else (none))) else (none)) else (none))) else (none)) else (none))))))))))))))))))))))) = some r := H
 have A2 := XPrint.A0 A20
 clear A20
 obtain ⟨y211, hy211⟩ : ∃ y_ : List (S23), y_ = (([(⟨t207, t208⟩ : S23), (⟨t209, t210⟩ : S23)] : List (S23))) := ⟨_, rfl⟩
 replace H : ((vec_Add.f k y211).bind fun bt214 => ((liverylaw01_of.f 1 2).bind fun bt218 => ((liverylaw01_of.f 3 (-5)).bind fun bt220 => ((vec_Sub.f k bt218.1 bt218.2 bt220.1 bt220.2).bind fun bt222 => ((liverylaw01_of.f 2 (-3)).bind fun bt226 => ((vec_Scale.f bt226.1 bt226.2 4).bind fun bt228 => ((liverylaw01_of.f 1125899906842624 0).bind fun bt232 => ((liverylaw01_of.f 1 0).bind fun bt234 => ((vec_Add.f k (([(⟨bt232.1, bt232.2⟩ : S23), (⟨bt234.1, bt234.2⟩ : S23)] : List (S23)))).bind fun bt239 => ((liverylaw01_of.f 562949953421312 0).bind fun bt243 => ((vec_Scale.f bt243.1 bt243.2 3).bind fun bt245 => ((liverylaw01_of.f 10 7).bind fun bt249 => ((liverylaw01_of.f 3 2).bind fun bt251 => ((vec_Units.f k bt249.1 bt249.2 bt251.1 bt251.2).bind fun bt253 => ((liverylaw01_of.f (-1) 9).bind fun bt255 => ((liverylaw01_of.f 1 1).bind fun bt257 => ((vec_Units.f k bt255.1 bt255.2 bt257.1 bt257.2).bind fun bt259 => ((liverylaw01_of.f 1 1).bind fun bt261 => ((liverylaw01_of.f 0 1).bind fun bt263 => ((vec_Units.f k bt261.1 bt261.2 bt263.1 bt263.2).bind fun bt265 => ((liverylaw01_of.f 4 (-3)).bind fun bt267 => (if (bt214.1 == bt267.1 && (bt214.2.1 == bt267.2)) = true then (if bt214.2.2 = 0 then ((liverylaw01_of.f (-2) 7).bind fun bt269 => (if (bt222.1 == bt269.1 && (bt222.2.1 == bt269.2)) = true then (if bt222.2.2 = 0 then ((liverylaw01_of.f 8 (-12)).bind fun bt271 => (if (bt228.1 == bt271.1 && (bt228.2.1 == bt271.2)) = true then (if bt228.2.2 = 0 then (if bt239.2.2 = 10 then (if bt245.2.2 = 10 then ((liverylaw01_of.f 1 5).bind fun bt273 => ((liverylaw01_of.f 3 2).bind fun bt275 => ((vec_Min.f bt273.1 bt273.2 bt275.1 bt275.2).bind fun bt277 => ((liverylaw01_of.f 1 2).bind fun bt279 => (if (bt277.1 == bt279.1 && (bt277.2 == bt279.2)) = true then ((liverylaw01_of.f 1 5).bind fun bt281 => ((liverylaw01_of.f 3 2).bind fun bt283 => ((vec_Max.f bt281.1 bt281.2 bt283.1 bt283.2).bind fun bt285 => ((liverylaw01_of.f 3 5).bind fun bt287 => (if (bt285.1 == bt287.1 && (bt285.2 == bt287.2)) = true then ((liverylaw01_of.f 1 2).bind fun bt289 => ((liverylaw01_of.f 1 3).bind fun bt291 => ((vec_LE.f bt289.1 bt289.2 bt291.1 bt291.2).bind fun t293 => (if t293 = true then ((liverylaw01_of.f 1 4).bind fun bt294 => ((liverylaw01_of.f 2 3).bind fun bt296 => ((vec_LE.f bt294.1 bt294.2 bt296.1 bt296.2).bind fun t298 => (if t298 = true then (none) else (if bt253.1 = 3 then (if bt253.2 = 0 then (if bt259.1 = 0 then (if bt259.2 = 0 then (some (bt265.2 == 2)) else (none)) else (none)) else (none)) else (none)))))) else (none))))) else (none)))))) else (none)))))) else (none)) else (none)) else (none)) else (none))) else (none)) else (none))) else (none)) else (none))))))))))))))))))))))) = some r := by first | (rw [hy211]; with_reducible exact H) | (have H2_ := (Option.bind_some _ _).symm.trans H; rw [hy211]; with_reducible exact H2_) | (have H2_ := (Option.bind_some _ _).symm.trans H; with_reducible exact H2_) | with_reducible exact H | (rw [hy211]; exact H) | exact H
 have Ny211 := XPrint.A0 hy211
 clear hy211
 replace H := Option.bind_eq_some_iff.mp H
 obtain ⟨⟨t214, t215, t216⟩, A30, H⟩ := H
 replace H : ((liverylaw01_of.f 1 2).bind fun bt218 => ((liverylaw01_of.f 3 (-5)).bind fun bt220 => ((vec_Sub.f k bt218.1 bt218.2 bt220.1 bt220.2).bind fun bt222 => ((liverylaw01_of.f 2 (-3)).bind fun bt226 => ((vec_Scale.f bt226.1 bt226.2 4).bind fun bt228 => ((liverylaw01_of.f 1125899906842624 0).bind fun bt232 => ((liverylaw01_of.f 1 0).bind fun bt234 => ((vec_Add.f k (([(⟨bt232.1, bt232.2⟩ : S23), (⟨bt234.1, bt234.2⟩ : S23)] : List (S23)))).bind fun bt239 => ((liverylaw01_of.f 562949953421312 0).bind fun bt243 => ((vec_Scale.f bt243.1 bt243.2 3).bind fun bt245 => ((liverylaw01_of.f 10 7).bind fun bt249 => ((liverylaw01_of.f 3 2).bind fun bt251 => ((vec_Units.f k bt249.1 bt249.2 bt251.1 bt251.2).bind fun bt253 => ((liverylaw01_of.f (-1) 9).bind fun bt255 => ((liverylaw01_of.f 1 1).bind fun bt257 => ((vec_Units.f k bt255.1 bt255.2 bt257.1 bt257.2).bind fun bt259 => ((liverylaw01_of.f 1 1).bind fun bt261 => ((liverylaw01_of.f 0 1).bind fun bt263 => ((vec_Units.f k bt261.1 bt261.2 bt263.1 bt263.2).bind fun bt265 => ((liverylaw01_of.f 4 (-3)).bind fun bt267 => (if (t214 == bt267.1 && (t215 == bt267.2)) = true then (if t216 = 0 then ((liverylaw01_of.f (-2) 7).bind fun bt269 => (if (bt222.1 == bt269.1 && (bt222.2.1 == bt269.2)) = true then (if bt222.2.2 = 0 then ((liverylaw01_of.f 8 (-12)).bind fun bt271 => (if (bt228.1 == bt271.1 && (bt228.2.1 == bt271.2)) = true then (if bt228.2.2 = 0 then (if bt239.2.2 = 10 then (if bt245.2.2 = 10 then ((liverylaw01_of.f 1 5).bind fun bt273 => ((liverylaw01_of.f 3 2).bind fun bt275 => ((vec_Min.f bt273.1 bt273.2 bt275.1 bt275.2).bind fun bt277 => ((liverylaw01_of.f 1 2).bind fun bt279 => (if (bt277.1 == bt279.1 && (bt277.2 == bt279.2)) = true then ((liverylaw01_of.f 1 5).bind fun bt281 => ((liverylaw01_of.f 3 2).bind fun bt283 => ((vec_Max.f bt281.1 bt281.2 bt283.1 bt283.2).bind fun bt285 => ((liverylaw01_of.f 3 5).bind fun bt287 => (if (bt285.1 == bt287.1 && (bt285.2 == bt287.2)) = true then ((liverylaw01_of.f 1 2).bind fun bt289 => ((liverylaw01_of.f 1 3).bind fun bt291 => ((vec_LE.f bt289.1 bt289.2 bt291.1 bt291.2).bind fun t293 => (if t293 = true then ((liverylaw01_of.f 1 4).bind fun bt294 => ((liverylaw01_of.f 2 3).bind fun bt296 => ((vec_LE.f bt294.1 bt294.2 bt296.1 bt296.2).bind fun t298 => (if t298 = true then (none) else (if bt253.1 = 3 then (if bt253.2 = 0 then (if bt259.1 = 0 then (if bt259.2 = 0 then (some (bt265.2 == 2)) else (none)) else (none)) else (none)) else (none)))))) else (none))))) else (none)))))) else (none)))))) else (none)) else (none)) else (none)) else (none))) else (none)) else (none))) else (none)) else (none)))))))))))))))))))))) = some r := H
 have A3 := XPrint.A0 A30
 clear A30
 replace H := Option.bind_eq_some_iff.mp H
 obtain ⟨⟨t218, t219⟩, A40, H⟩ := H
 replace H : ((liverylaw01_of.f 3 (-5)).bind fun bt220 => ((vec_Sub.f k t218 t219 bt220.1 bt220.2).bind fun bt222 => ((liverylaw01_of.f 2 (-3)).bind fun bt226 => ((vec_Scale.f bt226.1 bt226.2 4).bind fun bt228 => ((liverylaw01_of.f 1125899906842624 0).bind fun bt232 => ((liverylaw01_of.f 1 0).bind fun bt234 => ((vec_Add.f k (([(⟨bt232.1, bt232.2⟩ : S23), (⟨bt234.1, bt234.2⟩ : S23)] : List (S23)))).bind fun bt239 => ((liverylaw01_of.f 562949953421312 0).bind fun bt243 => ((vec_Scale.f bt243.1 bt243.2 3).bind fun bt245 => ((liverylaw01_of.f 10 7).bind fun bt249 => ((liverylaw01_of.f 3 2).bind fun bt251 => ((vec_Units.f k bt249.1 bt249.2 bt251.1 bt251.2).bind fun bt253 => ((liverylaw01_of.f (-1) 9).bind fun bt255 => ((liverylaw01_of.f 1 1).bind fun bt257 => ((vec_Units.f k bt255.1 bt255.2 bt257.1 bt257.2).bind fun bt259 => ((liverylaw01_of.f 1 1).bind fun bt261 => ((liverylaw01_of.f 0 1).bind fun bt263 => ((vec_Units.f k bt261.1 bt261.2 bt263.1 bt263.2).bind fun bt265 => ((liverylaw01_of.f 4 (-3)).bind fun bt267 => (if (t214 == bt267.1 && (t215 == bt267.2)) = true then (if t216 = 0 then ((liverylaw01_of.f (-2) 7).bind fun bt269 => (if (bt222.1 == bt269.1 && (bt222.2.1 == bt269.2)) = true then (if bt222.2.2 = 0 then ((liverylaw01_of.f 8 (-12)).bind fun bt271 => (if (bt228.1 == bt271.1 && (bt228.2.1 == bt271.2)) = true then (if bt228.2.2 = 0 then (if bt239.2.2 = 10 then (if bt245.2.2 = 10 then ((liverylaw01_of.f 1 5).bind fun bt273 => ((liverylaw01_of.f 3 2).bind fun bt275 => ((vec_Min.f bt273.1 bt273.2 bt275.1 bt275.2).bind fun bt277 => ((liverylaw01_of.f 1 2).bind fun bt279 => (if (bt277.1 == bt279.1 && (bt277.2 == bt279.2)) = true then ((liverylaw01_of.f 1 5).bind fun bt281 => ((liverylaw01_of.f 3 2).bind fun bt283 => ((vec_Max.f bt281.1 bt281.2 bt283.1 bt283.2).bind fun bt285 => ((liverylaw01_of.f 3 5).bind fun bt287 => (if (bt285.1 == bt287.1 && (bt285.2 == bt287.2)) = true then ((liverylaw01_of.f 1 2).bind fun bt289 => ((liverylaw01_of.f 1 3).bind fun bt291 => ((vec_LE.f bt289.1 bt289.2 bt291.1 bt291.2).bind fun t293 => (if t293 = true then ((liverylaw01_of.f 1 4).bind fun bt294 => ((liverylaw01_of.f 2 3).bind fun bt296 => ((vec_LE.f bt294.1 bt294.2 bt296.1 bt296.2).bind fun t298 => (if t298 = true then (none) else (if bt253.1 = 3 then (if bt253.2 = 0 then (if bt259.1 = 0 then (if bt259.2 = 0 then (some (bt265.2 == 2)) else (none)) else (none)) else (none)) else (none)))))) else (none))))) else (none)))))) else (none)))))) else (none)) else (none)) else (none)) else (none))) else (none)) else (none))) else (none)) else (none))))))))))))))))))))) = some r := H
 have A4 := XPrint.A0 A40
 clear A40
 replace H := Option.bind_eq_some_iff.mp H
 obtain ⟨⟨t220, t221⟩, A50, H⟩ := H
 replace H : ((vec_Sub.f k t218 t219 t220 t221).bind fun bt222 => ((liverylaw01_of.f 2 (-3)).bind fun bt226 => ((vec_Scale.f bt226.1 bt226.2 4).bind fun bt228 => ((liverylaw01_of.f 1125899906842624 0).bind fun bt232 => ((liverylaw01_of.f 1 0).bind fun bt234 => ((vec_Add.f k (([(⟨bt232.1, bt232.2⟩ : S23), (⟨bt234.1, bt234.2⟩ : S23)] : List (S23)))).bind fun bt239 => ((liverylaw01_of.f 562949953421312 0).bind fun bt243 => ((vec_Scale.f bt243.1 bt243.2 3).bind fun bt245 => ((liverylaw01_of.f 10 7).bind fun bt249 => ((liverylaw01_of.f 3 2).bind fun bt251 => ((vec_Units.f k bt249.1 bt249.2 bt251.1 bt251.2).bind fun bt253 => ((liverylaw01_of.f (-1) 9).bind fun bt255 => ((liverylaw01_of.f 1 1).bind fun bt257 => ((vec_Units.f k bt255.1 bt255.2 bt257.1 bt257.2).bind fun bt259 => ((liverylaw01_of.f 1 1).bind fun bt261 => ((liverylaw01_of.f 0 1).bind fun bt263 => ((vec_Units.f k bt261.1 bt261.2 bt263.1 bt263.2).bind fun bt265 => ((liverylaw01_of.f 4 (-3)).bind fun bt267 => (if (t214 == bt267.1 && (t215 == bt267.2)) = true then (if t216 = 0 then ((liverylaw01_of.f (-2) 7).bind fun bt269 => (if (bt222.1 == bt269.1 && (bt222.2.1 == bt269.2)) = true then (if bt222.2.2 = 0 then ((liverylaw01_of.f 8 (-12)).bind fun bt271 => (if (bt228.1 == bt271.1 && (bt228.2.1 == bt271.2)) = true then (if bt228.2.2 = 0 then (if bt239.2.2 = 10 then (if bt245.2.2 = 10 then ((liverylaw01_of.f 1 5).bind fun bt273 => ((liverylaw01_of.f 3 2).bind fun bt275 => ((vec_Min.f bt273.1 bt273.2 bt275.1 bt275.2).bind fun bt277 => ((liverylaw01_of.f 1 2).bind fun bt279 => (if (bt277.1 == bt279.1 && (bt277.2 == bt279.2)) = true then ((liverylaw01_of.f 1 5).bind fun bt281 => ((liverylaw01_of.f 3 2).bind fun bt283 => ((vec_Max.f bt281.1 bt281.2 bt283.1 bt283.2).bind fun bt285 => ((liverylaw01_of.f 3 5).bind fun bt287 => (if (bt285.1 == bt287.1 && (bt285.2 == bt287.2)) = true then ((liverylaw01_of.f 1 2).bind fun bt289 => ((liverylaw01_of.f 1 3).bind fun bt291 => ((vec_LE.f bt289.1 bt289.2 bt291.1 bt291.2).bind fun t293 => (if t293 = true then ((liverylaw01_of.f 1 4).bind fun bt294 => ((liverylaw01_of.f 2 3).bind fun bt296 => ((vec_LE.f bt294.1 bt294.2 bt296.1 bt296.2).bind fun t298 => (if t298 = true then (none) else (if bt253.1 = 3 then (if bt253.2 = 0 then (if bt259.1 = 0 then (if bt259.2 = 0 then (some (bt265.2 == 2)) else (none)) else (none)) else (none)) else (none)))))) else (none))))) else (none)))))) else (none)))))) else (none)) else (none)) else (none)) else (none))) else (none)) else (none))) else (none)) else (none)))))))))))))))))))) = some r := H
 have A5 := XPrint.A0 A50
 clear A50
 replace H := Option.bind_eq_some_iff.mp H
 obtain ⟨⟨t222, t223, t224⟩, A60, H⟩ := H
 replace H : ((liverylaw01_of.f 2 (-3)).bind fun bt226 => ((vec_Scale.f bt226.1 bt226.2 4).bind fun bt228 => ((liverylaw01_of.f 1125899906842624 0).bind fun bt232 => ((liverylaw01_of.f 1 0).bind fun bt234 => ((vec_Add.f k (([(⟨bt232.1, bt232.2⟩ : S23), (⟨bt234.1, bt234.2⟩ : S23)] : List (S23)))).bind fun bt239 => ((liverylaw01_of.f 562949953421312 0).bind fun bt243 => ((vec_Scale.f bt243.1 bt243.2 3).bind fun bt245 => ((liverylaw01_of.f 10 7).bind fun bt249 => ((liverylaw01_of.f 3 2).bind fun bt251 => ((vec_Units.f k bt249.1 bt249.2 bt251.1 bt251.2).bind fun bt253 => ((liverylaw01_of.f (-1) 9).bind fun bt255 => ((liverylaw01_of.f 1 1).bind fun bt257 => ((vec_Units.f k bt255.1 bt255.2 bt257.1 bt257.2).bind fun bt259 => ((liverylaw01_of.f 1 1).bind fun bt261 => ((liverylaw01_of.f 0 1).bind fun bt263 => ((vec_Units.f k bt261.1 bt261.2 bt263.1 bt263.2).bind fun bt265 => ((liverylaw01_of.f 4 (-3)).bind fun bt267 => (if (t214 == bt267.1 && (t215 == bt267.2)) = true then (if t216 = 0 then ((liverylaw01_of.f (-2) 7).bind fun bt269 => (if (t222 == bt269.1 && (t223 == bt269.2)) = true then (if t224 = 0 then ((liverylaw01_of.f 8 (-12)).bind fun bt271 => (if (bt228.1 == bt271.1 && (bt228.2.1 == bt271.2)) = true then (if bt228.2.2 = 0 then (if bt239.2.2 = 10 then (if bt245.2.2 = 10 then ((liverylaw01_of.f 1 5).bind fun bt273 => ((liverylaw01_of.f 3 2).bind fun bt275 => ((vec_Min.f bt273.1 bt273.2 bt275.1 bt275.2).bind fun bt277 => ((liverylaw01_of.f 1 2).bind fun bt279 => (if (bt277.1 == bt279.1 && (bt277.2 == bt279.2)) = true then ((liverylaw01_of.f 1 5).bind fun bt281 => ((liverylaw01_of.f 3 2).bind fun bt283 => ((vec_Max.f bt281.1 bt281.2 bt283.1 bt283.2).bind fun bt285 => ((liverylaw01_of.f 3 5).bind fun bt287 => (if (bt285.1 == bt287.1 && (bt285.2 == bt287.2)) = true then ((liverylaw01_of.f 1 2).bind fun bt289 => ((liverylaw01_of.f 1 3).bind fun bt291 => ((vec_LE.f bt289.1 bt289.2 bt291.1 bt291.2).bind fun t293 => (if t293 = true then ((liverylaw01_of.f 1 4).bind fun bt294 => ((liverylaw01_of.f 2 3).bind fun bt296 => ((vec_LE.f bt294.1 bt294.2 bt296.1 bt296.2).bind fun t298 => (if t298 = true then (none) else (if bt253.1 = 3 then (if bt253.2 = 0 then (if bt259.1 = 0 then (if bt259.2 = 0 then (some (bt265.2 == 2)) else (none)) else (none)) else (none)) else (none)))))) else (none))))) else (none)))))) else (none)))))) else (none)) else (none)) else (none)) else (none))) else (none)) else (none))) else (none)) else (none))))))))))))))))))) = some r := H
 have A6 := XPrint.A0 A60
 clear A60
 replace H := Option.bind_eq_some_iff.mp H
 obtain ⟨⟨t226, t227⟩, A70, H⟩ := H
 replace H : ((vec_Scale.f t226 t227 4).bind fun bt228 => ((liverylaw01_of.f 1125899906842624 0).bind fun bt232 => ((liverylaw01_of.f 1 0).bind fun bt234 => ((vec_Add.f k (([(⟨bt232.1, bt232.2⟩ : S23), (⟨bt234.1, bt234.2⟩ : S23)] : List (S23)))).bind fun bt239 => ((liverylaw01_of.f 562949953421312 0).bind fun bt243 => ((vec_Scale.f bt243.1 bt243.2 3).bind fun bt245 => ((liverylaw01_of.f 10 7).bind fun bt249 => ((liverylaw01_of.f 3 2).bind fun bt251 => ((vec_Units.f k bt249.1 bt249.2 bt251.1 bt251.2).bind fun bt253 => ((liverylaw01_of.f (-1) 9).bind fun bt255 => ((liverylaw01_of.f 1 1).bind fun bt257 => ((vec_Units.f k bt255.1 bt255.2 bt257.1 bt257.2).bind fun bt259 => ((liverylaw01_of.f 1 1).bind fun bt261 => ((liverylaw01_of.f 0 1).bind fun bt263 => ((vec_Units.f k bt261.1 bt261.2 bt263.1 bt263.2).bind fun bt265 => ((liverylaw01_of.f 4 (-3)).bind fun bt267 => (if (t214 == bt267.1 && (t215 == bt267.2)) = true then (if t216 = 0 then ((liverylaw01_of.f (-2) 7).bind fun bt269 => (if (t222 == bt269.1 && (t223 == bt269.2)) = true then (if t224 = 0 then ((liverylaw01_of.f 8 (-12)).bind fun bt271 => (if (bt228.1 == bt271.1 && (bt228.2.1 == bt271.2)) = true then (if bt228.2.2 = 0 then (if bt239.2.2 = 10 then (if bt245.2.2 = 10 then ((liverylaw01_of.f 1 5).bind fun bt273 => ((liverylaw01_of.f 3 2).bind fun bt275 => ((vec_Min.f bt273.1 bt273.2 bt275.1 bt275.2).bind fun bt277 => ((liverylaw01_of.f 1 2).bind fun bt279 => (if (bt277.1 == bt279.1 && (bt277.2 == bt279.2)) = true then ((liverylaw01_of.f 1 5).bind fun bt281 => ((liverylaw01_of.f 3 2).bind fun bt283 => ((vec_Max.f bt281.1 bt281.2 bt283.1 bt283.2).bind fun bt285 => ((liverylaw01_of.f 3 5).bind fun bt287 => (if (bt285.1 == bt287.1 && (bt285.2 == bt287.2)) = true then ((liverylaw01_of.f 1 2).bind fun bt289 => ((liverylaw01_of.f 1 3).bind fun bt291 => ((vec_LE.f bt289.1 bt289.2 bt291.1 bt291.2).bind fun t293 => (if t293 = true then ((liverylaw01_of.f 1 4).bind fun bt294 => ((liverylaw01_of.f 2 3).bind fun bt296 => ((vec_LE.f bt294.1 bt294.2 bt296.1 bt296.2).bind fun t298 => (if t298 = true then (none) else (if bt253.1 = 3 then (if bt253.2 = 0 then (if bt259.1 = 0 then (if bt259.2 = 0 then (some (bt265.2 == 2)) else (none)) else (none)) else (none)) else (none)))))) else (none))))) else (none)))))) else (none)))))) else (none)) else (none)) else (none)) else (none))) else (none)) else (none))) else (none)) else (none)))))))))))))))))) = some r := H
 have A7 := XPrint.A0 A70
 clear A70
 replace H := Option.bind_eq_some_iff.mp H
 obtain ⟨⟨t228, t229, t230⟩, A80, H⟩ := H
 replace H : ((liverylaw01_of.f 1125899906842624 0).bind fun bt232 => ((liverylaw01_of.f 1 0).bind fun bt234 => ((vec_Add.f k (([(⟨bt232.1, bt232.2⟩ : S23), (⟨bt234.1, bt234.2⟩ : S23)] : List (S23)))).bind fun bt239 => ((liverylaw01_of.f 562949953421312 0).bind fun bt243 => ((vec_Scale.f bt243.1 bt243.2 3).bind fun bt245 => ((liverylaw01_of.f 10 7).bind fun bt249 => ((liverylaw01_of.f 3 2).bind fun bt251 => ((vec_Units.f k bt249.1 bt249.2 bt251.1 bt251.2).bind fun bt253 => ((liverylaw01_of.f (-1) 9).bind fun bt255 => ((liverylaw01_of.f 1 1).bind fun bt257 => ((vec_Units.f k bt255.1 bt255.2 bt257.1 bt257.2).bind fun bt259 => ((liverylaw01_of.f 1 1).bind fun bt261 => ((liverylaw01_of.f 0 1).bind fun bt263 => ((vec_Units.f k bt261.1 bt261.2 bt263.1 bt263.2).bind fun bt265 => ((liverylaw01_of.f 4 (-3)).bind fun bt267 => (if (t214 == bt267.1 && (t215 == bt267.2)) = true then (if t216 = 0 then ((liverylaw01_of.f (-2) 7).bind fun bt269 => (if (t222 == bt269.1 && (t223 == bt269.2)) = true then (if t224 = 0 then ((liverylaw01_of.f 8 (-12)).bind fun bt271 => (if (t228 == bt271.1 && (t229 == bt271.2)) = true then (if t230 = 0 then (if bt239.2.2 = 10 then (if bt245.2.2 = 10 then ((liverylaw01_of.f 1 5).bind fun bt273 => ((liverylaw01_of.f 3 2).bind fun bt275 => ((vec_Min.f bt273.1 bt273.2 bt275.1 bt275.2).bind fun bt277 => ((liverylaw01_of.f 1 2).bind fun bt279 => (if (bt277.1 == bt279.1 && (bt277.2 == bt279.2)) = true then ((liverylaw01_of.f 1 5).bind fun bt281 => ((liverylaw01_of.f 3 2).bind fun bt283 => ((vec_Max.f bt281.1 bt281.2 bt283.1 bt283.2).bind fun bt285 => ((liverylaw01_of.f 3 5).bind fun bt287 => (if (bt285.1 == bt287.1 && (bt285.2 == bt287.2)) = true then ((liverylaw01_of.f 1 2).bind fun bt289 => ((liverylaw01_of.f 1 3).bind fun bt291 => ((vec_LE.f bt289.1 bt289.2 bt291.1 bt291.2).bind fun t293 => (if t293 = true then ((liverylaw01_of.f 1 4).bind fun bt294 => ((liverylaw01_of.f 2 3).bind fun bt296 => ((vec_LE.f bt294.1 bt294.2 bt296.1 bt296.2).bind fun t298 => (if t298 = true then (none) else (if bt253.1 = 3 then (if bt253.2 = 0 then (if bt259.1 = 0 then (if bt259.2 = 0 then (some (bt265.2 == 2)) else (none)) else (none)) else (none)) else (none)))))) else (none))))) else (none)))))) else (none)))))) else (none)) else (none)) else (none)) else (none))) else (none)) else (none))) else (none)) else (none))))))))))))))))) = some r := H
 have A8 := XPrint.A0 A80
 clear A80
 replace H := Option.bind_eq_some_iff.mp H
 obtain ⟨⟨t232, t233⟩, A90, H⟩ := H
 replace H : ((liverylaw01_of.f 1 0).bind fun bt234 => ((vec_Add.f k (([(⟨t232, t233⟩ : S23), (⟨bt234.1, bt234.2⟩ : S23)] : List (S23)))).bind fun bt239 => ((liverylaw01_of.f 562949953421312 0).bind fun bt243 => ((vec_Scale.f bt243.1 bt243.2 3).bind fun bt245 => ((liverylaw01_of.f 10 7).bind fun bt249 => ((liverylaw01_of.f 3 2).bind fun bt251 => ((vec_Units.f k bt249.1 bt249.2 bt251.1 bt251.2).bind fun bt253 => ((liverylaw01_of.f (-1) 9).bind fun bt255 => ((liverylaw01_of.f 1 1).bind fun bt257 => ((vec_Units.f k bt255.1 bt255.2 bt257.1 bt257.2).bind fun bt259 => ((liverylaw01_of.f 1 1).bind fun bt261 => ((liverylaw01_of.f 0 1).bind fun bt263 => ((vec_Units.f k bt261.1 bt261.2 bt263.1 bt263.2).bind fun bt265 => ((liverylaw01_of.f 4 (-3)).bind fun bt267 => (if (t214 == bt267.1 && (t215 == bt267.2)) = true then (if t216 = 0 then ((liverylaw01_of.f (-2) 7).bind fun bt269 => (if (t222 == bt269.1 && (t223 == bt269.2)) = true then (if t224 = 0 then ((liverylaw01_of.f 8 (-12)).bind fun bt271 => (if (t228 == bt271.1 && (t229 == bt271.2)) = true then (if t230 = 0 then (if bt239.2.2 = 10 then (if bt245.2.2 = 10 then ((liverylaw01_of.f 1 5).bind fun bt273 => ((liverylaw01_of.f 3 2).bind fun bt275 => ((vec_Min.f bt273.1 bt273.2 bt275.1 bt275.2).bind fun bt277 => ((liverylaw01_of.f 1 2).bind fun bt279 => (if (bt277.1 == bt279.1 && (bt277.2 == bt279.2)) = true then ((liverylaw01_of.f 1 5).bind fun bt281 => ((liverylaw01_of.f 3 2).bind fun bt283 => ((vec_Max.f bt281.1 bt281.2 bt283.1 bt283.2).bind fun bt285 => ((liverylaw01_of.f 3 5).bind fun bt287 => (if (bt285.1 == bt287.1 && (bt285.2 == bt287.2)) = true then ((liverylaw01_of.f 1 2).bind fun bt289 => ((liverylaw01_of.f 1 3).bind fun bt291 => ((vec_LE.f bt289.1 bt289.2 bt291.1 bt291.2).bind fun t293 => (if t293 = true then ((liverylaw01_of.f 1 4).bind fun bt294 => ((liverylaw01_of.f 2 3).bind fun bt296 => ((vec_LE.f bt294.1 bt294.2 bt296.1 bt296.2).bind fun t298 => (if t298 = true then (none) else (if bt253.1 = 3 then (if bt253.2 = 0 then (if bt259.1 = 0 then (if bt259.2 = 0 then (some (bt265.2 == 2)) else (none)) else (none)) else (none)) else (none)))))) else (none))))) else (none)))))) else (none)))))) else (none)) else (none)) else (none)) else (none))) else (none)) else (none))) else (none)) else (none)))))))))))))))) = some r := H
 have A9 := XPrint.A0 A90
 clear A90
 replace H := Option.bind_eq_some_iff.mp H
 obtain ⟨⟨t234, t235⟩, A100, H⟩ := H
 replace H : ((vec_Add.f k (([(⟨t232, t233⟩ : S23), (⟨t234, t235⟩ : S23)] : List (S23)))).bind fun bt239 => ((liverylaw01_of.f 562949953421312 0).bind fun bt243 => ((vec_Scale.f bt243.1 bt243.2 3).bind fun bt245 => ((liverylaw01_of.f 10 7).bind fun bt249 => ((liverylaw01_of.f 3 2).bind fun bt251 => ((vec_Units.f k bt249.1 bt249.2 bt251.1 bt251.2).bind fun bt253 => ((liverylaw01_of.f (-1) 9).bind fun bt255 => ((liverylaw01_of.f 1 1).bind fun bt257 => ((vec_Units.f k bt255.1 bt255.2 bt257.1 bt257.2).bind fun bt259 => ((liverylaw01_of.f 1 1).bind fun bt261 => ((liverylaw01_of.f 0 1).bind fun bt263 => ((vec_Units.f k bt261.1 bt261.2 bt263.1 bt263.2).bind fun bt265 => ((liverylaw01_of.f 4 (-3)).bind fun bt267 => (if (t214 == bt267.1 && (t215 == bt267.2)) = true then (if t216 = 0 then ((liverylaw01_of.f (-2) 7).bind fun bt269 => (if (t222 == bt269.1 && (t223 == bt269.2)) = true then (if t224 = 0 then ((liverylaw01_of.f 8 (-12)).bind fun bt271 => (if (t228 == bt271.1 && (t229 == bt271.2)) = true then (if t230 = 0 then (if bt239.2.2 = 10 then (if bt245.2.2 = 10 then ((liverylaw01_of.f 1 5).bind fun bt273 => ((liverylaw01_of.f 3 2).bind fun bt275 => ((vec_Min.f bt273.1 bt273.2 bt275.1 bt275.2).bind fun bt277 => ((liverylaw01_of.f 1 2).bind fun bt279 => (if (bt277.1 == bt279.1 && (bt277.2 == bt279.2)) = true then ((liverylaw01_of.f 1 5).bind fun bt281 => ((liverylaw01_of.f 3 2).bind fun bt283 => ((vec_Max.f bt281.1 bt281.2 bt283.1 bt283.2).bind fun bt285 => ((liverylaw01_of.f 3 5).bind fun bt287 => (if (bt285.1 == bt287.1 && (bt285.2 == bt287.2)) = true then ((liverylaw01_of.f 1 2).bind fun bt289 => ((liverylaw01_of.f 1 3).bind fun bt291 => ((vec_LE.f bt289.1 bt289.2 bt291.1 bt291.2).bind fun t293 => (if t293 = true then ((liverylaw01_of.f 1 4).bind fun bt294 => ((liverylaw01_of.f 2 3).bind fun bt296 => ((vec_LE.f bt294.1 bt294.2 bt296.1 bt296.2).bind fun t298 => (if t298 = true then (none) else (if bt253.1 = 3 then (if bt253.2 = 0 then (if bt259.1 = 0 then (if bt259.2 = 0 then (some (bt265.2 == 2)) else (none)) else (none)) else (none)) else (none)))))) else (none))))) else (none)))))) else (none)))))) else (none)) else (none)) else (none)) else (none))) else (none)) else (none))) else (none)) else (none))))))))))))))) = some r := H
 have A10 := XPrint.A0 A100
 clear A100
 obtain ⟨y236, hy236⟩ : ∃ y_ : List (S23), y_ = (([(⟨t232, t233⟩ : S23), (⟨t234, t235⟩ : S23)] : List (S23))) := ⟨_, rfl⟩
 replace H : ((vec_Add.f k y236).bind fun bt239 => ((liverylaw01_of.f 562949953421312 0).bind fun bt243 => ((vec_Scale.f bt243.1 bt243.2 3).bind fun bt245 => ((liverylaw01_of.f 10 7).bind fun bt249 => ((liverylaw01_of.f 3 2).bind fun bt251 => ((vec_Units.f k bt249.1 bt249.2 bt251.1 bt251.2).bind fun bt253 => ((liverylaw01_of.f (-1) 9).bind fun bt255 => ((liverylaw01_of.f 1 1).bind fun bt257 => ((vec_Units.f k bt255.1 bt255.2 bt257.1 bt257.2).bind fun bt259 => ((liverylaw01_of.f 1 1).bind fun bt261 => ((liverylaw01_of.f 0 1).bind fun bt263 => ((vec_Units.f k bt261.1 bt261.2 bt263.1 bt263.2).bind fun bt265 => ((liverylaw01_of.f 4 (-3)).bind fun bt267 => (if (t214 == bt267.1 && (t215 == bt267.2)) = true then (if t216 = 0 then ((liverylaw01_of.f (-2) 7).bind fun bt269 => (if (t222 == bt269.1 && (t223 == bt269.2)) = true then (if t224 = 0 then ((liverylaw01_of.f 8 (-12)).bind fun bt271 => (if (t228 == bt271.1 && (t229 == bt271.2)) = true then (if t230 = 0 then (if bt239.2.2 = 10 then (if bt245.2.2 = 10 then ((liverylaw01_of.f 1 5).bind fun bt273 => ((liverylaw01_of.f 3 2).bind fun bt275 => ((vec_Min.f bt273.1 bt273.2 bt275.1 bt275.2).bind fun bt277 => ((liverylaw01_of.f 1 2).bind fun bt279 => (if (bt277.1 == bt279.1 && (bt277.2 == bt279.2)) = true then ((liverylaw01_of.f 1 5).bind fun bt281 => ((liverylaw01_of.f 3 2).bind fun bt283 => ((vec_Max.f bt281.1 bt281.2 bt283.1 bt283.2).bind fun bt285 => ((liverylaw01_of.f 3 5).bind fun bt287 => (if (bt285.1 == bt287.1 && (bt285.2 == bt287.2)) = true then ((liverylaw01_of.f 1 2).bind fun bt289 => ((liverylaw01_of.f 1 3).bind fun bt291 => ((vec_LE.f bt289.1 bt289.2 bt291.1 bt291.2).bind fun t293 => (if t293 = true then ((liverylaw01_of.f 1 4).bind fun bt294 => ((liverylaw01_of.f 2 3).bind fun bt296 => ((vec_LE.f bt294.1 bt294.2 bt296.1 bt296.2).bind fun t298 => (if t298 = true then (none) else (if bt253.1 = 3 then (if bt253.2 = 0 then (if bt259.1 = 0 then (if bt259.2 = 0 then (some (bt265.2 == 2)) else (none)) else (none)) else (none)) else (none)))))) else (none))))) else (none)))))) else (none)))))) else (none)) else (none)) else (none)) else (none))) else (none)) else (none))) else (none)) else (none))))))))))))))) = some r := by first | (rw [hy236]; with_reducible exact H) | (have H2_ := (Option.bind_some _ _).symm.trans H; rw [hy236]; with_reducible exact H2_) | (have H2_ := (Option.bind_some _ _).symm.trans H; with_reducible exact H2_) | with_reducible exact H | (rw [hy236]; exact H) | exact H
 have Ny236 := XPrint.A0 hy236
 clear hy236
 replace H := Option.bind_eq_some_iff.mp H
 obtain ⟨⟨t239, t240, t241⟩, A110, H⟩ := H
 replace H : ((liverylaw01_of.f 562949953421312 0).bind fun bt243 => ((vec_Scale.f bt243.1 bt243.2 3).bind fun bt245 => ((liverylaw01_of.f 10 7).bind fun bt249 => ((liverylaw01_of.f 3 2).bind fun bt251 => ((vec_Units.f k bt249.1 bt249.2 bt251.1 bt251.2).bind fun bt253 => ((liverylaw01_of.f (-1) 9).bind fun bt255 => ((liverylaw01_of.f 1 1).bind fun bt257 => ((vec_Units.f k bt255.1 bt255.2 bt257.1 bt257.2).bind fun bt259 => ((liverylaw01_of.f 1 1).bind fun bt261 => ((liverylaw01_of.f 0 1).bind fun bt263 => ((vec_Units.f k bt261.1 bt261.2 bt263.1 bt263.2).bind fun bt265 => ((liverylaw01_of.f 4 (-3)).bind fun bt267 => (if (t214 == bt267.1 && (t215 == bt267.2)) = true then (if t216 = 0 then ((liverylaw01_of.f (-2) 7).bind fun bt269 => (if (t222 == bt269.1 && (t223 == bt269.2)) = true then (if t224 = 0 then ((liverylaw01_of.f 8 (-12)).bind fun bt271 => (if (t228 == bt271.1 && (t229 == bt271.2)) = true then (if t230 = 0 then (if t241 = 10 then (if bt245.2.2 = 10 then ((liverylaw01_of.f 1 5).bind fun bt273 => ((liverylaw01_of.f 3 2).bind fun bt275 => ((vec_Min.f bt273.1 bt273.2 bt275.1 bt275.2).bind fun bt277 => ((liverylaw01_of.f 1 2).bind fun bt279 => (if (bt277.1 == bt279.1 && (bt277.2 == bt279.2)) = true then ((liverylaw01_of.f 1 5).bind fun bt281 => ((liverylaw01_of.f 3 2).bind fun bt283 => ((vec_Max.f bt281.1 bt281.2 bt283.1 bt283.2).bind fun bt285 => ((liverylaw01_of.f 3 5).bind fun bt287 => (if (bt285.1 == bt287.1 && (bt285.2 == bt287.2)) = true then ((liverylaw01_of.f 1 2).bind fun bt289 => ((liverylaw01_of.f 1 3).bind fun bt291 => ((vec_LE.f bt289.1 bt289.2 bt291.1 bt291.2).bind fun t293 => (if t293 = true then ((liverylaw01_of.f 1 4).bind fun bt294 => ((liverylaw01_of.f 2 3).bind fun bt296 => ((vec_LE.f bt294.1 bt294.2 bt296.1 bt296.2).bind fun t298 => (if t298 = true then (none) else (if bt253.1 = 3 then (if bt253.2 = 0 then (if bt259.1 = 0 then (if bt259.2 = 0 then (some (bt265.2 == 2)) else (none)) else (none)) else (none)) else (none)))))) else (none))))) else (none)))))) else (none)))))) else (none)) else (none)) else (none)) else (none))) else (none)) else (none))) else (none)) else (none)))))))))))))) = some r := H
 have A11 := XPrint.A0 A110
 clear A110
 replace H := Option.bind_eq_some_iff.mp H
 obtain ⟨⟨t243, t244⟩, A120, H⟩ := H
 replace H : ((vec_Scale.f t243 t244 3).bind fun bt245 => ((liverylaw01_of.f 10 7).bind fun bt249 => ((liverylaw01_of.f 3 2).bind fun bt251 => ((vec_Units.f k bt249.1 bt249.2 bt251.1 bt251.2).bind fun bt253 => ((liverylaw01_of.f (-1) 9).bind fun bt255 => ((liverylaw01_of.f 1 1).bind fun bt257 => ((vec_Units.f k bt255.1 bt255.2 bt257.1 bt257.2).bind fun bt259 => ((liverylaw01_of.f 1 1).bind fun bt261 => ((liverylaw01_of.f 0 1).bind fun bt263 => ((vec_Units.f k bt261.1 bt261.2 bt263.1 bt263.2).bind fun bt265 => ((liverylaw01_of.f 4 (-3)).bind fun bt267 => (if (t214 == bt267.1 && (t215 == bt267.2)) = true then (if t216 = 0 then ((liverylaw01_of.f (-2) 7).bind fun bt269 => (if (t222 == bt269.1 && (t223 == bt269.2)) = true then (if t224 = 0 then ((liverylaw01_of.f 8 (-12)).bind fun bt271 => (if (t228 == bt271.1 && (t229 == bt271.2)) = true then (if t230 = 0 then (if t241 = 10 then (if bt245.2.2 = 10 then ((liverylaw01_of.f 1 5).bind fun bt273 => ((liverylaw01_of.f 3 2).bind fun bt275 => ((vec_Min.f bt273.1 bt273.2 bt275.1 bt275.2).bind fun bt277 => ((liverylaw01_of.f 1 2).bind fun bt279 => (if (bt277.1 == bt279.1 && (bt277.2 == bt279.2)) = true then ((liverylaw01_of.f 1 5).bind fun bt281 => ((liverylaw01_of.f 3 2).bind fun bt283 => ((vec_Max.f bt281.1 bt281.2 bt283.1 bt283.2).bind fun bt285 => ((liverylaw01_of.f 3 5).bind fun bt287 => (if (bt285.1 == bt287.1 && (bt285.2 == bt287.2)) = true then ((liverylaw01_of.f 1 2).bind fun bt289 => ((liverylaw01_of.f 1 3).bind fun bt291 => ((vec_LE.f bt289.1 bt289.2 bt291.1 bt291.2).bind fun t293 => (if t293 = true then ((liverylaw01_of.f 1 4).bind fun bt294 => ((liverylaw01_of.f 2 3).bind fun bt296 => ((vec_LE.f bt294.1 bt294.2 bt296.1 bt296.2).bind fun t298 => (if t298 = true then (none) else (if bt253.1 = 3 then (if bt253.2 = 0 then (if bt259.1 = 0 then (if bt259.2 = 0 then (some (bt265.2 == 2)) else (none)) else (none)) else (none)) else (none)))))) else (none))))) else (none)))))) else (none)))))) else (none)) else (none)) else (none)) else (none))) else (none)) else (none))) else (none)) else (none))))))))))))) = some r := H
 have A12 := XPrint.A0 A120
 clear A120
 replace H := Option.bind_eq_some_iff.mp H
 obtain ⟨⟨t245, t246, t247⟩, A130, H⟩ := H
 replace H : ((liverylaw01_of.f 10 7).bind fun bt249 => ((liverylaw01_of.f 3 2).bind fun bt251 => ((vec_Units.f k bt249.1 bt249.2 bt251.1 bt251.2).bind fun bt253 => ((liverylaw01_of.f (-1) 9).bind fun bt255 => ((liverylaw01_of.f 1 1).bind fun bt257 => ((vec_Units.f k bt255.1 bt255.2 bt257.1 bt257.2).bind fun bt259 => ((liverylaw01_of.f 1 1).bind fun bt261 => ((liverylaw01_of.f 0 1).bind fun bt263 => ((vec_Units.f k bt261.1 bt261.2 bt263.1 bt263.2).bind fun bt265 => ((liverylaw01_of.f 4 (-3)).bind fun bt267 => (if (t214 == bt267.1 && (t215 == bt267.2)) = true then (if t216 = 0 then ((liverylaw01_of.f (-2) 7).bind fun bt269 => (if (t222 == bt269.1 && (t223 == bt269.2)) = true then (if t224 = 0 then ((liverylaw01_of.f 8 (-12)).bind fun bt271 => (if (t228 == bt271.1 && (t229 == bt271.2)) = true then (if t230 = 0 then (if t241 = 10 then (if t247 = 10 then ((liverylaw01_of.f 1 5).bind fun bt273 => ((liverylaw01_of.f 3 2).bind fun bt275 => ((vec_Min.f bt273.1 bt273.2 bt275.1 bt275.2).bind fun bt277 => ((liverylaw01_of.f 1 2).bind fun bt279 => (if (bt277.1 == bt279.1 && (bt277.2 == bt279.2)) = true then ((liverylaw01_of.f 1 5).bind fun bt281 => ((liverylaw01_of.f 3 2).bind fun bt283 => ((vec_Max.f bt281.1 bt281.2 bt283.1 bt283.2).bind fun bt285 => ((liverylaw01_of.f 3 5).bind fun bt287 => (if (bt285.1 == bt287.1 && (bt285.2 == bt287.2)) = true then ((liverylaw01_of.f 1 2).bind fun bt289 => ((liverylaw01_of.f 1 3).bind fun bt291 => ((vec_LE.f bt289.1 bt289.2 bt291.1 bt291.2).bind fun t293 => (if t293 = true then ((liverylaw01_of.f 1 4).bind fun bt294 => ((liverylaw01_of.f 2 3).bind fun bt296 => ((vec_LE.f bt294.1 bt294.2 bt296.1 bt296.2).bind fun t298 => (if t298 = true then (none) else (if bt253.1 = 3 then (if bt253.2 = 0 then (if bt259.1 = 0 then (if bt259.2 = 0 then (some (bt265.2 == 2)) else (none)) else (none)) else (none)) else (none)))))) else (none))))) else (none)))))) else (none)))))) else (none)) else (none)) else (none)) else (none))) else (none)) else (none))) else (none)) else (none)))))))))))) = some r := H
 have A13 := XPrint.A0 A130
 clear A130
 replace H := Option.bind_eq_some_iff.mp H
 obtain ⟨⟨t249, t250⟩, A140, H⟩ := H
 replace H : ((liverylaw01_of.f 3 2).bind fun bt251 => ((vec_Units.f k t249 t250 bt251.1 bt251.2).bind fun bt253 => ((liverylaw01_of.f (-1) 9).bind fun bt255 => ((liverylaw01_of.f 1 1).bind fun bt257 => ((vec_Units.f k bt255.1 bt255.2 bt257.1 bt257.2).bind fun bt259 => ((liverylaw01_of.f 1 1).bind fun bt261 => ((liverylaw01_of.f 0 1).bind fun bt263 => ((vec_Units.f k bt261.1 bt261.2 bt263.1 bt263.2).bind fun bt265 => ((liverylaw01_of.f 4 (-3)).bind fun bt267 => (if (t214 == bt267.1 && (t215 == bt267.2)) = true then (if t216 = 0 then ((liverylaw01_of.f (-2) 7).bind fun bt269 => (if (t222 == bt269.1 && (t223 == bt269.2)) = true then (if t224 = 0 then ((liverylaw01_of.f 8 (-12)).bind fun bt271 => (if (t228 == bt271.1 && (t229 == bt271.2)) = true then (if t230 = 0 then (if t241 = 10 then (if t247 = 10 then ((liverylaw01_of.f 1 5).bind fun bt273 => ((liverylaw01_of.f 3 2).bind fun bt275 => ((vec_Min.f bt273.1 bt273.2 bt275.1 bt275.2).bind fun bt277 => ((liverylaw01_of.f 1 2).bind fun bt279 => (if (bt277.1 == bt279.1 && (bt277.2 == bt279.2)) = true then ((liverylaw01_of.f 1 5).bind fun bt281 => ((liverylaw01_of.f 3 2).bind fun bt283 => ((vec_Max.f bt281.1 bt281.2 bt283.1 bt283.2).bind fun bt285 => ((liverylaw01_of.f 3 5).bind fun bt287 => (if (bt285.1 == bt287.1 && (bt285.2 == bt287.2)) = true then ((liverylaw01_of.f 1 2).bind fun bt289 => ((liverylaw01_of.f 1 3).bind fun bt291 => ((vec_LE.f bt289.1 bt289.2 bt291.1 bt291.2).bind fun t293 => (if t293 = true then ((liverylaw01_of.f 1 4).bind fun bt294 => ((liverylaw01_of.f 2 3).bind fun bt296 => ((vec_LE.f bt294.1 bt294.2 bt296.1 bt296.2).bind fun t298 => (if t298 = true then (none) else (if bt253.1 = 3 then (if bt253.2 = 0 then (if bt259.1 = 0 then (if bt259.2 = 0 then (some (bt265.2 == 2)) else (none)) else (none)) else (none)) else (none)))))) else (none))))) else (none)))))) else (none)))))) else (none)) else (none)) else (none)) else (none))) else (none)) else (none))) else (none)) else (none))))))))))) = some r := H
 have A14 := XPrint.A0 A140
 clear A140
 replace H := Option.bind_eq_some_iff.mp H
 obtain ⟨⟨t251, t252⟩, A150, H⟩ := H
 replace H : ((vec_Units.f k t249 t250 t251 t252).bind fun bt253 => ((liverylaw01_of.f (-1) 9).bind fun bt255 => ((liverylaw01_of.f 1 1).bind fun bt257 => ((vec_Units.f k bt255.1 bt255.2 bt257.1 bt257.2).bind fun bt259 => ((liverylaw01_of.f 1 1).bind fun bt261 => ((liverylaw01_of.f 0 1).bind fun bt263 => ((vec_Units.f k bt261.1 bt261.2 bt263.1 bt263.2).bind fun bt265 => ((liverylaw01_of.f 4 (-3)).bind fun bt267 => (if (t214 == bt267.1 && (t215 == bt267.2)) = true then (if t216 = 0 then ((liverylaw01_of.f (-2) 7).bind fun bt269 => (if (t222 == bt269.1 && (t223 == bt269.2)) = true then (if t224 = 0 then ((liverylaw01_of.f 8 (-12)).bind fun bt271 => (if (t228 == bt271.1 && (t229 == bt271.2)) = true then (if t230 = 0 then (if t241 = 10 then (if t247 = 10 then ((liverylaw01_of.f 1 5).bind fun bt273 => ((liverylaw01_of.f 3 2).bind fun bt275 => ((vec_Min.f bt273.1 bt273.2 bt275.1 bt275.2).bind fun bt277 => ((liverylaw01_of.f 1 2).bind fun bt279 => (if (bt277.1 == bt279.1 && (bt277.2 == bt279.2)) = true then ((liverylaw01_of.f 1 5).bind fun bt281 => ((liverylaw01_of.f 3 2).bind fun bt283 => ((vec_Max.f bt281.1 bt281.2 bt283.1 bt283.2).bind fun bt285 => ((liverylaw01_of.f 3 5).bind fun bt287 => (if (bt285.1 == bt287.1 && (bt285.2 == bt287.2)) = true then ((liverylaw01_of.f 1 2).bind fun bt289 => ((liverylaw01_of.f 1 3).bind fun bt291 => ((vec_LE.f bt289.1 bt289.2 bt291.1 bt291.2).bind fun t293 => (if t293 = true then ((liverylaw01_of.f 1 4).bind fun bt294 => ((liverylaw01_of.f 2 3).bind fun bt296 => ((vec_LE.f bt294.1 bt294.2 bt296.1 bt296.2).bind fun t298 => (if t298 = true then (none) else (if bt253.1 = 3 then (if bt253.2 = 0 then (if bt259.1 = 0 then (if bt259.2 = 0 then (some (bt265.2 == 2)) else (none)) else (none)) else (none)) else (none)))))) else (none))))) else (none)))))) else (none)))))) else (none)) else (none)) else (none)) else (none))) else (none)) else (none))) else (none)) else (none)))))))))) = some r := H
 have A15 := XPrint.A0 A150
 clear A150
 replace H := Option.bind_eq_some_iff.mp H
 obtain ⟨⟨t253, t254⟩, A160, H⟩ := H
 replace H : ((liverylaw01_of.f (-1) 9).bind fun bt255 => ((liverylaw01_of.f 1 1).bind fun bt257 => ((vec_Units.f k bt255.1 bt255.2 bt257.1 bt257.2).bind fun bt259 => ((liverylaw01_of.f 1 1).bind fun bt261 => ((liverylaw01_of.f 0 1).bind fun bt263 => ((vec_Units.f k bt261.1 bt261.2 bt263.1 bt263.2).bind fun bt265 => ((liverylaw01_of.f 4 (-3)).bind fun bt267 => (if (t214 == bt267.1 && (t215 == bt267.2)) = true then (if t216 = 0 then ((liverylaw01_of.f (-2) 7).bind fun bt269 => (if (t222 == bt269.1 && (t223 == bt269.2)) = true then (if t224 = 0 then ((liverylaw01_of.f 8 (-12)).bind fun bt271 => (if (t228 == bt271.1 && (t229 == bt271.2)) = true then (if t230 = 0 then (if t241 = 10 then (if t247 = 10 then ((liverylaw01_of.f 1 5).bind fun bt273 => ((liverylaw01_of.f 3 2).bind fun bt275 => ((vec_Min.f bt273.1 bt273.2 bt275.1 bt275.2).bind fun bt277 => ((liverylaw01_of.f 1 2).bind fun bt279 => (if (bt277.1 == bt279.1 && (bt277.2 == bt279.2)) = true then ((liverylaw01_of.f 1 5).bind fun bt281 => ((liverylaw01_of.f 3 2).bind fun bt283 => ((vec_Max.f bt281.1 bt281.2 bt283.1 bt283.2).bind fun bt285 => ((liverylaw01_of.f 3 5).bind fun bt287 => (if (bt285.1 == bt287.1 && (bt285.2 == bt287.2)) = true then ((liverylaw01_of.f 1 2).bind fun bt289 => ((liverylaw01_of.f 1 3).bind fun bt291 => ((vec_LE.f bt289.1 bt289.2 bt291.1 bt291.2).bind fun t293 => (if t293 = true then ((liverylaw01_of.f 1 4).bind fun bt294 => ((liverylaw01_of.f 2 3).bind fun bt296 => ((vec_LE.f bt294.1 bt294.2 bt296.1 bt296.2).bind fun t298 => (if t298 = true then (none) else (if t253 = 3 then (if t254 = 0 then (if bt259.1 = 0 then (if bt259.2 = 0 then (some (bt265.2 == 2)) else (none)) else (none)) else (none)) else (none)))))) else (none))))) else (none)))))) else (none)))))) else (none)) else (none)) else (none)) else (none))) else (none)) else (none))) else (none)) else (none))))))))) = some r := H
 have A16 := XPrint.A0 A160
 clear A160
 replace H := Option.bind_eq_some_iff.mp H
 obtain ⟨⟨t255, t256⟩, A170, H⟩ := H
 replace H : ((liverylaw01_of.f 1 1).bind fun bt257 => ((vec_Units.f k t255 t256 bt257.1 bt257.2).bind fun bt259 => ((liverylaw01_of.f 1 1).bind fun bt261 => ((liverylaw01_of.f 0 1).bind fun bt263 => ((vec_Units.f k bt261.1 bt261.2 bt263.1 bt263.2).bind fun bt265 => ((liverylaw01_of.f 4 (-3)).bind fun bt267 => (if (t214 == bt267.1 && (t215 == bt267.2)) = true then (if t216 = 0 then ((liverylaw01_of.f (-2) 7).bind fun bt269 => (if (t222 == bt269.1 && (t223 == bt269.2)) = true then (if t224 = 0 then ((liverylaw01_of.f 8 (-12)).bind fun bt271 => (if (t228 == bt271.1 && (t229 == bt271.2)) = true then (if t230 = 0 then (if t241 = 10 then (if t247 = 10 then ((liverylaw01_of.f 1 5).bind fun bt273 => ((liverylaw01_of.f 3 2).bind fun bt275 => ((vec_Min.f bt273.1 bt273.2 bt275.1 bt275.2).bind fun bt277 => ((liverylaw01_of.f 1 2).bind fun bt279 => (if (bt277.1 == bt279.1 && (bt277.2 == bt279.2)) = true then ((liverylaw01_of.f 1 5).bind fun bt281 => ((liverylaw01_of.f 3 2).bind fun bt283 => ((vec_Max.f bt281.1 bt281.2 bt283.1 bt283.2).bind fun bt285 => ((liverylaw01_of.f 3 5).bind fun bt287 => (if (bt285.1 == bt287.1 && (bt285.2 == bt287.2)) = true then ((liverylaw01_of.f 1 2).bind fun bt289 => ((liverylaw01_of.f 1 3).bind fun bt291 => ((vec_LE.f bt289.1 bt289.2 bt291.1 bt291.2).bind fun t293 => (if t293 = true then ((liverylaw01_of.f 1 4).bind fun bt294 => ((liverylaw01_of.f 2 3).bind fun bt296 => ((vec_LE.f bt294.1 bt294.2 bt296.1 bt296.2).bind fun t298 => (if t298 = true then (none) else (if t253 = 3 then (if t254 = 0 then (if bt259.1 = 0 then (if bt259.2 = 0 then (some (bt265.2 == 2)) else (none)) else (none)) else (none)) else (none)))))) else (none))))) else (none)))))) else (none)))))) else (none)) else (none)) else (none)) else (none))) else (none)) else (none))) else (none)) else (none)))))))) = some r := H
 have A17 := XPrint.A0 A170
 clear A170
 replace H := Option.bind_eq_some_iff.mp H
 obtain ⟨⟨t257, t258⟩, A180, H⟩ := H
 replace H : ((vec_Units.f k t255 t256 t257 t258).bind fun bt259 => ((liverylaw01_of.f 1 1).bind fun bt261 => ((liverylaw01_of.f 0 1).bind fun bt263 => ((vec_Units.f k bt261.1 bt261.2 bt263.1 bt263.2).bind fun bt265 => ((liverylaw01_of.f 4 (-3)).bind fun bt267 => (if (t214 == bt267.1 && (t215 == bt267.2)) = true then (if t216 = 0 then ((liverylaw01_of.f (-2) 7).bind fun bt269 => (if (t222 == bt269.1 && (t223 == bt269.2)) = true then (if t224 = 0 then ((liverylaw01_of.f 8 (-12)).bind fun bt271 => (if (t228 == bt271.1 && (t229 == bt271.2)) = true then (if t230 = 0 then (if t241 = 10 then (if t247 = 10 then ((liverylaw01_of.f 1 5).bind fun bt273 => ((liverylaw01_of.f 3 2).bind fun bt275 => ((vec_Min.f bt273.1 bt273.2 bt275.1 bt275.2).bind fun bt277 => ((liverylaw01_of.f 1 2).bind fun bt279 => (if (bt277.1 == bt279.1 && (bt277.2 == bt279.2)) = true then ((liverylaw01_of.f 1 5).bind fun bt281 => ((liverylaw01_of.f 3 2).bind fun bt283 => ((vec_Max.f bt281.1 bt281.2 bt283.1 bt283.2).bind fun bt285 => ((liverylaw01_of.f 3 5).bind fun bt287 => (if (bt285.1 == bt287.1 && (bt285.2 == bt287.2)) = true then ((liverylaw01_of.f 1 2).bind fun bt289 => ((liverylaw01_of.f 1 3).bind fun bt291 => ((vec_LE.f bt289.1 bt289.2 bt291.1 bt291.2).bind fun t293 => (if t293 = true then ((liverylaw01_of.f 1 4).bind fun bt294 => ((liverylaw01_of.f 2 3).bind fun bt296 => ((vec_LE.f bt294.1 bt294.2 bt296.1 bt296.2).bind fun t298 => (if t298 = true then (none) else (if t253 = 3 then (if t254 = 0 then (if bt259.1 = 0 then (if bt259.2 = 0 then (some (bt265.2 == 2)) else (none)) else (none)) else (none)) else (none)))))) else (none))))) else (none)))))) else (none)))))) else (none)) else (none)) else (none)) else (none))) else (none)) else (none))) else (none)) else (none))))))) = some r := H
 have A18 := XPrint.A0 A180
 clear A180
 replace H := Option.bind_eq_some_iff.mp H
 obtain ⟨⟨t259, t260⟩, A190, H⟩ := H
 replace H : ((liverylaw01_of.f 1 1).bind fun bt261 => ((liverylaw01_of.f 0 1).bind fun bt263 => ((vec_Units.f k bt261.1 bt261.2 bt263.1 bt263.2).bind fun bt265 => ((liverylaw01_of.f 4 (-3)).bind fun bt267 => (if (t214 == bt267.1 && (t215 == bt267.2)) = true then (if t216 = 0 then ((liverylaw01_of.f (-2) 7).bind fun bt269 => (if (t222 == bt269.1 && (t223 == bt269.2)) = true then (if t224 = 0 then ((liverylaw01_of.f 8 (-12)).bind fun bt271 => (if (t228 == bt271.1 && (t229 == bt271.2)) = true then (if t230 = 0 then (if t241 = 10 then (if t247 = 10 then ((liverylaw01_of.f 1 5).bind fun bt273 => ((liverylaw01_of.f 3 2).bind fun bt275 => ((vec_Min.f bt273.1 bt273.2 bt275.1 bt275.2).bind fun bt277 => ((liverylaw01_of.f 1 2).bind fun bt279 => (if (bt277.1 == bt279.1 && (bt277.2 == bt279.2)) = true then ((liverylaw01_of.f 1 5).bind fun bt281 => ((liverylaw01_of.f 3 2).bind fun bt283 => ((vec_Max.f bt281.1 bt281.2 bt283.1 bt283.2).bind fun bt285 => ((liverylaw01_of.f 3 5).bind fun bt287 => (if (bt285.1 == bt287.1 && (bt285.2 == bt287.2)) = true then ((liverylaw01_of.f 1 2).bind fun bt289 => ((liverylaw01_of.f 1 3).bind fun bt291 => ((vec_LE.f bt289.1 bt289.2 bt291.1 bt291.2).bind fun t293 => (if t293 = true then ((liverylaw01_of.f 1 4).bind fun bt294 => ((liverylaw01_of.f 2 3).bind fun bt296 => ((vec_LE.f bt294.1 bt294.2 bt296.1 bt296.2).bind fun t298 => (if t298 = true then (none) else (if t253 = 3 then (if t254 = 0 then (if t259 = 0 then (if t260 = 0 then (some (bt265.2 == 2)) else (none)) else (none)) else (none)) else (none)))))) else (none))))) else (none)))))) else (none)))))) else (none)) else (none)) else (none)) else (none))) else (none)) else (none))) else (none)) else (none)))))) = some r := H
 have A19 := XPrint.A0 A190
 clear A190
 replace H := Option.bind_eq_some_iff.mp H
 obtain ⟨⟨t261, t262⟩, A200, H⟩ := H
 replace H : ((liverylaw01_of.f 0 1).bind fun bt263 => ((vec_Units.f k t261 t262 bt263.1 bt263.2).bind fun bt265 => ((liverylaw01_of.f 4 (-3)).bind fun bt267 => (if (t214 == bt267.1 && (t215 == bt267.2)) = true then (if t216 = 0 then ((liverylaw01_of.f (-2) 7).bind fun bt269 => (if (t222 == bt269.1 && (t223 == bt269.2)) = true then (if t224 = 0 then ((liverylaw01_of.f 8 (-12)).bind fun bt271 => (if (t228 == bt271.1 && (t229 == bt271.2)) = true then (if t230 = 0 then (if t241 = 10 then (if t247 = 10 then ((liverylaw01_of.f 1 5).bind fun bt273 => ((liverylaw01_of.f 3 2).bind fun bt275 => ((vec_Min.f bt273.1 bt273.2 bt275.1 bt275.2).bind fun bt277 => ((liverylaw01_of.f 1 2).bind fun bt279 => (if (bt277.1 == bt279.1 && (bt277.2 == bt279.2)) = true then ((liverylaw01_of.f 1 5).bind fun bt281 => ((liverylaw01_of.f 3 2).bind fun bt283 => ((vec_Max.f bt281.1 bt281.2 bt283.1 bt283.2).bind fun bt285 => ((liverylaw01_of.f 3 5).bind fun bt287 => (if (bt285.1 == bt287.1 && (bt285.2 == bt287.2)) = true then ((liverylaw01_of.f 1 2).bind fun bt289 => ((liverylaw01_of.f 1 3).bind fun bt291 => ((vec_LE.f bt289.1 bt289.2 bt291.1 bt291.2).bind fun t293 => (if t293 = true then ((liverylaw01_of.f 1 4).bind fun bt294 => ((liverylaw01_of.f 2 3).bind fun bt296 => ((vec_LE.f bt294.1 bt294.2 bt296.1 bt296.2).bind fun t298 => (if t298 = true then (none) else (if t253 = 3 then (if t254 = 0 then (if t259 = 0 then (if t260 = 0 then (some (bt265.2 == 2)) else (none)) else (none)) else (none)) else (none)))))) else (none))))) else (none)))))) else (none)))))) else (none)) else (none)) else (none)) else (none))) else (none)) else (none))) else (none)) else (none))))) = some r := H
 have A20 := XPrint.A0 A200
 clear A200
 replace H := Option.bind_eq_some_iff.mp H
 obtain ⟨⟨t263, t264⟩, A210, H⟩ := H
 replace H : ((vec_Units.f k t261 t262 t263 t264).bind fun bt265 => ((liverylaw01_of.f 4 (-3)).bind fun bt267 => (if (t214 == bt267.1 && (t215 == bt267.2)) = true then (if t216 = 0 then ((liverylaw01_of.f (-2) 7).bind fun bt269 => (if (t222 == bt269.1 && (t223 == bt269.2)) = true then (if t224 = 0 then ((liverylaw01_of.f 8 (-12)).bind fun bt271 => (if (t228 == bt271.1 && (t229 == bt271.2)) = true then (if t230 = 0 then (if t241 = 10 then (if t247 = 10 then ((liverylaw01_of.f 1 5).bind fun bt273 => ((liverylaw01_of.f 3 2).bind fun bt275 => ((vec_Min.f bt273.1 bt273.2 bt275.1 bt275.2).bind fun bt277 => ((liverylaw01_of.f 1 2).bind fun bt279 => (if (bt277.1 == bt279.1 && (bt277.2 == bt279.2)) = true then ((liverylaw01_of.f 1 5).bind fun bt281 => ((liverylaw01_of.f 3 2).bind fun bt283 => ((vec_Max.f bt281.1 bt281.2 bt283.1 bt283.2).bind fun bt285 => ((liverylaw01_of.f 3 5).bind fun bt287 => (if (bt285.1 == bt287.1 && (bt285.2 == bt287.2)) = true then ((liverylaw01_of.f 1 2).bind fun bt289 => ((liverylaw01_of.f 1 3).bind fun bt291 => ((vec_LE.f bt289.1 bt289.2 bt291.1 bt291.2).bind fun t293 => (if t293 = true then ((liverylaw01_of.f 1 4).bind fun bt294 => ((liverylaw01_of.f 2 3).bind fun bt296 => ((vec_LE.f bt294.1 bt294.2 bt296.1 bt296.2).bind fun t298 => (if t298 = true then (none) else (if t253 = 3 then (if t254 = 0 then (if t259 = 0 then (if t260 = 0 then (some (bt265.2 == 2)) else (none)) else (none)) else (none)) else (none)))))) else (none))))) else (none)))))) else (none)))))) else (none)) else (none)) else (none)) else (none))) else (none)) else (none))) else (none)) else (none)))) = some r := H
 have A21 := XPrint.A0 A210
 clear A210
 replace H := Option.bind_eq_some_iff.mp H
 obtain ⟨⟨t265, t266⟩, A220, H⟩ := H
 replace H : ((liverylaw01_of.f 4 (-3)).bind fun bt267 => (if (t214 == bt267.1 && (t215 == bt267.2)) = true then (if t216 = 0 then ((liverylaw01_of.f (-2) 7).bind fun bt269 => (if (t222 == bt269.1 && (t223 == bt269.2)) = true then (if t224 = 0 then ((liverylaw01_of.f 8 (-12)).bind fun bt271 => (if (t228 == bt271.1 && (t229 == bt271.2)) = true then (if t230 = 0 then (if t241 = 10 then (if t247 = 10 then ((liverylaw01_of.f 1 5).bind fun bt273 => ((liverylaw01_of.f 3 2).bind fun bt275 => ((vec_Min.f bt273.1 bt273.2 bt275.1 bt275.2).bind fun bt277 => ((liverylaw01_of.f 1 2).bind fun bt279 => (if (bt277.1 == bt279.1 && (bt277.2 == bt279.2)) = true then ((liverylaw01_of.f 1 5).bind fun bt281 => ((liverylaw01_of.f 3 2).bind fun bt283 => ((vec_Max.f bt281.1 bt281.2 bt283.1 bt283.2).bind fun bt285 => ((liverylaw01_of.f 3 5).bind fun bt287 => (if (bt285.1 == bt287.1 && (bt285.2 == bt287.2)) = true then ((liverylaw01_of.f 1 2).bind fun bt289 => ((liverylaw01_of.f 1 3).bind fun bt291 => ((vec_LE.f bt289.1 bt289.2 bt291.1 bt291.2).bind fun t293 => (if t293 = true then ((liverylaw01_of.f 1 4).bind fun bt294 => ((liverylaw01_of.f 2 3).bind fun bt296 => ((vec_LE.f bt294.1 bt294.2 bt296.1 bt296.2).bind fun t298 => (if t298 = true then (none) else (if t253 = 3 then (if t254 = 0 then (if t259 = 0 then (if t260 = 0 then (some (t266 == 2)) else (none)) else (none)) else (none)) else (none)))))) else (none))))) else (none)))))) else (none)))))) else (none)) else (none)) else (none)) else (none))) else (none)) else (none))) else (none)) else (none))) = some r := H
 have A22 := XPrint.A0 A220
 clear A220
 replace H := Option.bind_eq_some_iff.mp H
 obtain ⟨⟨t267, t268⟩, A230, H⟩ := H
 replace H : (if (t214 == t267 && (t215 == t268)) = true then (if t216 = 0 then ((liverylaw01_of.f (-2) 7).bind fun bt269 => (if (t222 == bt269.1 && (t223 == bt269.2)) = true then (if t224 = 0 then ((liverylaw01_of.f 8 (-12)).bind fun bt271 => (if (t228 == bt271.1 && (t229 == bt271.2)) = true then (if t230 = 0 then (if t241 = 10 then (if t247 = 10 then ((liverylaw01_of.f 1 5).bind fun bt273 => ((liverylaw01_of.f 3 2).bind fun bt275 => ((vec_Min.f bt273.1 bt273.2 bt275.1 bt275.2).bind fun bt277 => ((liverylaw01_of.f 1 2).bind fun bt279 => (if (bt277.1 == bt279.1 && (bt277.2 == bt279.2)) = true then ((liverylaw01_of.f 1 5).bind fun bt281 => ((liverylaw01_of.f 3 2).bind fun bt283 => ((vec_Max.f bt281.1 bt281.2 bt283.1 bt283.2).bind fun bt285 => ((liverylaw01_of.f 3 5).bind fun bt287 => (if (bt285.1 == bt287.1 && (bt285.2 == bt287.2)) = true then ((liverylaw01_of.f 1 2).bind fun bt289 => ((liverylaw01_of.f 1 3).bind fun bt291 => ((vec_LE.f bt289.1 bt289.2 bt291.1 bt291.2).bind fun t293 => (if t293 = true then ((liverylaw01_of.f 1 4).bind fun bt294 => ((liverylaw01_of.f 2 3).bind fun bt296 => ((vec_LE.f bt294.1 bt294.2 bt296.1 bt296.2).bind fun t298 => (if t298 = true then (none) else (if t253 = 3 then (if t254 = 0 then (if t259 = 0 then (if t260 = 0 then (some (t266 == 2)) else (none)) else (none)) else (none)) else (none)))))) else (none))))) else (none)))))) else (none)))))) else (none)) else (none)) else (none)) else (none))) else (none)) else (none))) else (none)) else (none)) = some r := H
 have A23 := XPrint.A0 A230
 clear A230
 by_cases c24 : (t214 == t267 && (t215 == t268)) = true
 ·rw [if_pos c24] at H
  have c24b0 : (t214 == t267 && (t215 == t268)) = true := c24
  (try (have c24b1 : decide (t214 = t267 && (t215 == t268)) = true := by simpa using c24))
  (try (have c24b2 : (t214 == t267 && (t215 == t268)) = true := by simpa using c24))
  clear c24
  by_cases c25 : t216 = 0
  ·rw [if_pos c25] at H
   have c25b0 : (t216 == 0) = true := beq_iff_eq.mpr c25
   have c25b1 : (t216 != 0) = false := bne_eq_false_iff_eq.mpr c25
   clear c25
   replace H := Option.bind_eq_some_iff.mp H
   obtain ⟨⟨t269, t270⟩, A260, H⟩ := H
   replace H : (if (t222 == t269 && (t223 == t270)) = true then (if t224 = 0 then ((liverylaw01_of.f 8 (-12)).bind fun bt271 => (if (t228 == bt271.1 && (t229 == bt271.2)) = true then (if t230 = 0 then (if t241 = 10 then (if t247 = 10 then ((liverylaw01_of.f 1 5).bind fun bt273 => ((liverylaw01_of.f 3 2).bind fun bt275 => ((vec_Min.f bt273.1 bt273.2 bt275.1 bt275.2).bind fun bt277 => ((liverylaw01_of.f 1 2).bind fun bt279 => (if (bt277.1 == bt279.1 && (bt277.2 == bt279.2)) = true then ((liverylaw01_of.f 1 5).bind fun bt281 => ((liverylaw01_of.f 3 2).bind fun bt283 => ((vec_Max.f bt281.1 bt281.2 bt283.1 bt283.2).bind fun bt285 => ((liverylaw01_of.f 3 5).bind fun bt287 => (if (bt285.1 == bt287.1 && (bt285.2 == bt287.2)) = true then ((liverylaw01_of.f 1 2).bind fun bt289 => ((liverylaw01_of.f 1 3).bind fun bt291 => ((vec_LE.f bt289.1 bt289.2 bt291.1 bt291.2).bind fun t293 => (if t293 = true then ((liverylaw01_of.f 1 4).bind fun bt294 => ((liverylaw01_of.f 2 3).bind fun bt296 => ((vec_LE.f bt294.1 bt294.2 bt296.1 bt296.2).bind fun t298 => (if t298 = true then (none) else (if t253 = 3 then (if t254 = 0 then (if t259 = 0 then (if t260 = 0 then (some (t266 == 2)) else (none)) else (none)) else (none)) else (none)))))) else (none))))) else (none)))))) else (none)))))) else (none)) else (none)) else (none)) else (none))) else (none)) else (none)) = some r := H
   have A26 := XPrint.A0 A260
   clear A260
   by_cases c27 : (t222 == t269 && (t223 == t270)) = true
   ·rw [if_pos c27] at H
    have c27b0 : (t222 == t269 && (t223 == t270)) = true := c27
    (try (have c27b1 : decide (t222 = t269 && (t223 == t270)) = true := by simpa using c27))
    (try (have c27b2 : (t222 == t269 && (t223 == t270)) = true := by simpa using c27))
    clear c27
    by_cases c28 : t224 = 0
    ·rw [if_pos c28] at H
     have c28b0 : (t224 == 0) = true := beq_iff_eq.mpr c28
     have c28b1 : (t224 != 0) = false := bne_eq_false_iff_eq.mpr c28
     clear c28
     replace H := Option.bind_eq_some_iff.mp H
     obtain ⟨⟨t271, t272⟩, A290, H⟩ := H
     replace H : (if (t228 == t271 && (t229 == t272)) = true then (if t230 = 0 then (if t241 = 10 then (if t247 = 10 then ((liverylaw01_of.f 1 5).bind fun bt273 => ((liverylaw01_of.f 3 2).bind fun bt275 => ((vec_Min.f bt273.1 bt273.2 bt275.1 bt275.2).bind fun bt277 => ((liverylaw01_of.f 1 2).bind fun bt279 => (if (bt277.1 == bt279.1 && (bt277.2 == bt279.2)) = true then ((liverylaw01_of.f 1 5).bind fun bt281 => ((liverylaw01_of.f 3 2).bind fun bt283 => ((vec_Max.f bt281.1 bt281.2 bt283.1 bt283.2).bind fun bt285 => ((liverylaw01_of.f 3 5).bind fun bt287 => (if (bt285.1 == bt287.1 && (bt285.2 == bt287.2)) = true then ((liverylaw01_of.f 1 2).bind fun bt289 => ((liverylaw01_of.f 1 3).bind fun bt291 => ((vec_LE.f bt289.1 bt289.2 bt291.1 bt291.2).bind fun t293 => (if t293 = true then ((liverylaw01_of.f 1 4).bind fun bt294 => ((liverylaw01_of.f 2 3).bind fun bt296 => ((vec_LE.f bt294.1 bt294.2 bt296.1 bt296.2).bind fun t298 => (if t298 = true then (none) else (if t253 = 3 then (if t254 = 0 then (if t259 = 0 then (if t260 = 0 then (some (t266 == 2)) else (none)) else (none)) else (none)) else (none)))))) else (none))))) else (none)))))) else (none)))))) else (none)) else (none)) else (none)) else (none)) = some r := H
     have A29 := XPrint.A0 A290
     clear A290
     by_cases c30 : (t228 == t271 && (t229 == t272)) = true
     ·rw [if_pos c30] at H
      have c30b0 : (t228 == t271 && (t229 == t272)) = true := c30
      (try (have c30b1 : decide (t228 = t271 && (t229 == t272)) = true := by simpa using c30))
      (try (have c30b2 : (t228 == t271 && (t229 == t272)) = true := by simpa using c30))
      clear c30
      by_cases c31 : t230 = 0
      ·rw [if_pos c31] at H
       have c31b0 : (t230 == 0) = true := beq_iff_eq.mpr c31
       have c31b1 : (t230 != 0) = false := bne_eq_false_iff_eq.mpr c31
       clear c31
       by_cases c32 : t241 = 10
       ·rw [if_pos c32] at H
        have c32b0 : (t241 == 10) = true := beq_iff_eq.mpr c32
        have c32b1 : (t241 != 10) = false := bne_eq_false_iff_eq.mpr c32
        clear c32
        by_cases c33 : t247 = 10
        ·rw [if_pos c33] at H
         have c33b0 : (t247 == 10) = true := beq_iff_eq.mpr c33
         have c33b1 : (t247 != 10) = false := bne_eq_false_iff_eq.mpr c33
         clear c33
         replace H := Option.bind_eq_some_iff.mp H
         obtain ⟨⟨t273, t274⟩, A340, H⟩ := H
         replace H : ((liverylaw01_of.f 3 2).bind fun bt275 => ((vec_Min.f t273 t274 bt275.1 bt275.2).bind fun bt277 => ((liverylaw01_of.f 1 2).bind fun bt279 => (if (bt277.1 == bt279.1 && (bt277.2 == bt279.2)) = true then ((liverylaw01_of.f 1 5).bind fun bt281 => ((liverylaw01_of.f 3 2).bind fun bt283 => ((vec_Max.f bt281.1 bt281.2 bt283.1 bt283.2).bind fun bt285 => ((liverylaw01_of.f 3 5).bind fun bt287 => (if (bt285.1 == bt287.1 && (bt285.2 == bt287.2)) = true then ((liverylaw01_of.f 1 2).bind fun bt289 => ((liverylaw01_of.f 1 3).bind fun bt291 => ((vec_LE.f bt289.1 bt289.2 bt291.1 bt291.2).bind fun t293 => (if t293 = true then ((liverylaw01_of.f 1 4).bind fun bt294 => ((liverylaw01_of.f 2 3).bind fun bt296 => ((vec_LE.f bt294.1 bt294.2 bt296.1 bt296.2).bind fun t298 => (if t298 = true then (none) else (if t253 = 3 then (if t254 = 0 then (if t259 = 0 then (if t260 = 0 then (some (t266 == 2)) else (none)) else (none)) else (none)) else (none)))))) else (none))))) else (none)))))) else (none))))) = some r := H
         have A34 := XPrint.A0 A340
         clear A340
         replace H := Option.bind_eq_some_iff.mp H
         obtain ⟨⟨t275, t276⟩, A350, H⟩ := H
         replace H : ((vec_Min.f t273 t274 t275 t276).bind fun bt277 => ((liverylaw01_of.f 1 2).bind fun bt279 => (if (bt277.1 == bt279.1 && (bt277.2 == bt279.2)) = true then ((liverylaw01_of.f 1 5).bind fun bt281 => ((liverylaw01_of.f 3 2).bind fun bt283 => ((vec_Max.f bt281.1 bt281.2 bt283.1 bt283.2).bind fun bt285 => ((liverylaw01_of.f 3 5).bind fun bt287 => (if (bt285.1 == bt287.1 && (bt285.2 == bt287.2)) = true then ((liverylaw01_of.f 1 2).bind fun bt289 => ((liverylaw01_of.f 1 3).bind fun bt291 => ((vec_LE.f bt289.1 bt289.2 bt291.1 bt291.2).bind fun t293 => (if t293 = true then ((liverylaw01_of.f 1 4).bind fun bt294 => ((liverylaw01_of.f 2 3).bind fun bt296 => ((vec_LE.f bt294.1 bt294.2 bt296.1 bt296.2).bind fun t298 => (if t298 = true then (none) else (if t253 = 3 then (if t254 = 0 then (if t259 = 0 then (if t260 = 0 then (some (t266 == 2)) else (none)) else (none)) else (none)) else (none)))))) else (none))))) else (none)))))) else (none)))) = some r := H
         have A35 := XPrint.A0 A350
         clear A350
         replace H := Option.bind_eq_some_iff.mp H
         obtain ⟨⟨t277, t278⟩, A360, H⟩ := H
         replace H : ((liverylaw01_of.f 1 2).bind fun bt279 => (if (t277 == bt279.1 && (t278 == bt279.2)) = true then ((liverylaw01_of.f 1 5).bind fun bt281 => ((liverylaw01_of.f 3 2).bind fun bt283 => ((vec_Max.f bt281.1 bt281.2 bt283.1 bt283.2).bind fun bt285 => ((liverylaw01_of.f 3 5).bind fun bt287 => (if (bt285.1 == bt287.1 && (bt285.2 == bt287.2)) = true then ((liverylaw01_of.f 1 2).bind fun bt289 => ((liverylaw01_of.f 1 3).bind fun bt291 => ((vec_LE.f bt289.1 bt289.2 bt291.1 bt291.2).bind fun t293 => (if t293 = true then ((liverylaw01_of.f 1 4).bind fun bt294 => ((liverylaw01_of.f 2 3).bind fun bt296 => ((vec_LE.f bt294.1 bt294.2 bt296.1 bt296.2).bind fun t298 => (if t298 = true then (none) else (if t253 = 3 then (if t254 = 0 then (if t259 = 0 then (if t260 = 0 then (some (t266 == 2)) else (none)) else (none)) else (none)) else (none)))))) else (none))))) else (none)))))) else (none))) = some r := H
         have A36 := XPrint.A0 A360
         clear A360
         replace H := Option.bind_eq_some_iff.mp H
         obtain ⟨⟨t279, t280⟩, A370, H⟩ := H
         replace H : (if (t277 == t279 && (t278 == t280)) = true then ((liverylaw01_of.f 1 5).bind fun bt281 => ((liverylaw01_of.f 3 2).bind fun bt283 => ((vec_Max.f bt281.1 bt281.2 bt283.1 bt283.2).bind fun bt285 => ((liverylaw01_of.f 3 5).bind fun bt287 => (if (bt285.1 == bt287.1 && (bt285.2 == bt287.2)) = true then ((liverylaw01_of.f 1 2).bind fun bt289 => ((liverylaw01_of.f 1 3).bind fun bt291 => ((vec_LE.f bt289.1 bt289.2 bt291.1 bt291.2).bind fun t293 => (if t293 = true then ((liverylaw01_of.f 1 4).bind fun bt294 => ((liverylaw01_of.f 2 3).bind fun bt296 => ((vec_LE.f bt294.1 bt294.2 bt296.1 bt296.2).bind fun t298 => (if t298 = true then (none) else (if t253 = 3 then (if t254 = 0 then (if t259 = 0 then (if t260 = 0 then (some (t266 == 2)) else (none)) else (none)) else (none)) else (none)))))) else (none))))) else (none)))))) else (none)) = some r := H
         have A37 := XPrint.A0 A370
         clear A370
         by_cases c38 : (t277 == t279 && (t278 == t280)) = true
         ·rw [if_pos c38] at H
          have c38b0 : (t277 == t279 && (t278 == t280)) = true := c38
          (try (have c38b1 : decide (t277 = t279 && (t278 == t280)) = true := by simpa using c38))
          (try (have c38b2 : (t277 == t279 && (t278 == t280)) = true := by simpa using c38))
          clear c38
          replace H := Option.bind_eq_some_iff.mp H
          obtain ⟨⟨t281, t282⟩, A390, H⟩ := H
          replace H : ((liverylaw01_of.f 3 2).bind fun bt283 => ((vec_Max.f t281 t282 bt283.1 bt283.2).bind fun bt285 => ((liverylaw01_of.f 3 5).bind fun bt287 => (if (bt285.1 == bt287.1 && (bt285.2 == bt287.2)) = true then ((liverylaw01_of.f 1 2).bind fun bt289 => ((liverylaw01_of.f 1 3).bind fun bt291 => ((vec_LE.f bt289.1 bt289.2 bt291.1 bt291.2).bind fun t293 => (if t293 = true then ((liverylaw01_of.f 1 4).bind fun bt294 => ((liverylaw01_of.f 2 3).bind fun bt296 => ((vec_LE.f bt294.1 bt294.2 bt296.1 bt296.2).bind fun t298 => (if t298 = true then (none) else (if t253 = 3 then (if t254 = 0 then (if t259 = 0 then (if t260 = 0 then (some (t266 == 2)) else (none)) else (none)) else (none)) else (none)))))) else (none))))) else (none))))) = some r := H
          have A39 := XPrint.A0 A390
          clear A390
          replace H := Option.bind_eq_some_iff.mp H
          obtain ⟨⟨t283, t284⟩, A400, H⟩ := H
          replace H : ((vec_Max.f t281 t282 t283 t284).bind fun bt285 => ((liverylaw01_of.f 3 5).bind fun bt287 => (if (bt285.1 == bt287.1 && (bt285.2 == bt287.2)) = true then ((liverylaw01_of.f 1 2).bind fun bt289 => ((liverylaw01_of.f 1 3).bind fun bt291 => ((vec_LE.f bt289.1 bt289.2 bt291.1 bt291.2).bind fun t293 => (if t293 = true then ((liverylaw01_of.f 1 4).bind fun bt294 => ((liverylaw01_of.f 2 3).bind fun bt296 => ((vec_LE.f bt294.1 bt294.2 bt296.1 bt296.2).bind fun t298 => (if t298 = true then (none) else (if t253 = 3 then (if t254 = 0 then (if t259 = 0 then (if t260 = 0 then (some (t266 == 2)) else (none)) else (none)) else (none)) else (none)))))) else (none))))) else (none)))) = some r := H
          have A40 := XPrint.A0 A400
          clear A400
          replace H := Option.bind_eq_some_iff.mp H
          obtain ⟨⟨t285, t286⟩, A410, H⟩ := H
          replace H : ((liverylaw01_of.f 3 5).bind fun bt287 => (if (t285 == bt287.1 && (t286 == bt287.2)) = true then ((liverylaw01_of.f 1 2).bind fun bt289 => ((liverylaw01_of.f 1 3).bind fun bt291 => ((vec_LE.f bt289.1 bt289.2 bt291.1 bt291.2).bind fun t293 => (if t293 = true then ((liverylaw01_of.f 1 4).bind fun bt294 => ((liverylaw01_of.f 2 3).bind fun bt296 => ((vec_LE.f bt294.1 bt294.2 bt296.1 bt296.2).bind fun t298 => (if t298 = true then (none) else (if t253 = 3 then (if t254 = 0 then (if t259 = 0 then (if t260 = 0 then (some (t266 == 2)) else (none)) else (none)) else (none)) else (none)))))) else (none))))) else (none))) = some r := H
          have A41 := XPrint.A0 A410
          clear A410
          replace H := Option.bind_eq_some_iff.mp H
          obtain ⟨⟨t287, t288⟩, A420, H⟩ := H
          replace H : (if (t285 == t287 && (t286 == t288)) = true then ((liverylaw01_of.f 1 2).bind fun bt289 => ((liverylaw01_of.f 1 3).bind fun bt291 => ((vec_LE.f bt289.1 bt289.2 bt291.1 bt291.2).bind fun t293 => (if t293 = true then ((liverylaw01_of.f 1 4).bind fun bt294 => ((liverylaw01_of.f 2 3).bind fun bt296 => ((vec_LE.f bt294.1 bt294.2 bt296.1 bt296.2).bind fun t298 => (if t298 = true then (none) else (if t253 = 3 then (if t254 = 0 then (if t259 = 0 then (if t260 = 0 then (some (t266 == 2)) else (none)) else (none)) else (none)) else (none)))))) else (none))))) else (none)) = some r := H
          have A42 := XPrint.A0 A420
          clear A420
          by_cases c43 : (t285 == t287 && (t286 == t288)) = true
          ·rw [if_pos c43] at H
           have c43b0 : (t285 == t287 && (t286 == t288)) = true := c43
           (try (have c43b1 : decide (t285 = t287 && (t286 == t288)) = true := by simpa using c43))
           (try (have c43b2 : (t285 == t287 && (t286 == t288)) = true := by simpa using c43))
           clear c43
           replace H := Option.bind_eq_some_iff.mp H
           obtain ⟨⟨t289, t290⟩, A440, H⟩ := H
           replace H : ((liverylaw01_of.f 1 3).bind fun bt291 => ((vec_LE.f t289 t290 bt291.1 bt291.2).bind fun t293 => (if t293 = true then ((liverylaw01_of.f 1 4).bind fun bt294 => ((liverylaw01_of.f 2 3).bind fun bt296 => ((vec_LE.f bt294.1 bt294.2 bt296.1 bt296.2).bind fun t298 => (if t298 = true then (none) else (if t253 = 3 then (if t254 = 0 then (if t259 = 0 then (if t260 = 0 then (some (t266 == 2)) else (none)) else (none)) else (none)) else (none)))))) else (none)))) = some r := H
           have A44 := XPrint.A0 A440
           clear A440
           replace H := Option.bind_eq_some_iff.mp H
           obtain ⟨⟨t291, t292⟩, A450, H⟩ := H
           replace H : ((vec_LE.f t289 t290 t291 t292).bind fun t293 => (if t293 = true then ((liverylaw01_of.f 1 4).bind fun bt294 => ((liverylaw01_of.f 2 3).bind fun bt296 => ((vec_LE.f bt294.1 bt294.2 bt296.1 bt296.2).bind fun t298 => (if t298 = true then (none) else (if t253 = 3 then (if t254 = 0 then (if t259 = 0 then (if t260 = 0 then (some (t266 == 2)) else (none)) else (none)) else (none)) else (none)))))) else (none))) = some r := H
           have A45 := XPrint.A0 A450
           clear A450
           replace H := Option.bind_eq_some_iff.mp H
           obtain ⟨t293, A460, H⟩ := H
           try set_option simprocs false in dsimp only at H
           have A46 := XPrint.A0 A460
           clear A460
           by_cases c47 : t293 = true
           ·subst c47
            have H1 := H; rw [if_pos rfl] at H1
            clear H
            have H := H1
            clear H1
            replace H := Option.bind_eq_some_iff.mp H
            obtain ⟨⟨t294, t295⟩, A480, H⟩ := H
            replace H : ((liverylaw01_of.f 2 3).bind fun bt296 => ((vec_LE.f t294 t295 bt296.1 bt296.2).bind fun t298 => (if t298 = true then (none) else (if t253 = 3 then (if t254 = 0 then (if t259 = 0 then (if t260 = 0 then (some (t266 == 2)) else (none)) else (none)) else (none)) else (none))))) = some r := H
            have A48 := XPrint.A0 A480
            clear A480
            replace H := Option.bind_eq_some_iff.mp H
            obtain ⟨⟨t296, t297⟩, A490, H⟩ := H
            replace H : ((vec_LE.f t294 t295 t296 t297).bind fun t298 => (if t298 = true then (none) else (if t253 = 3 then (if t254 = 0 then (if t259 = 0 then (if t260 = 0 then (some (t266 == 2)) else (none)) else (none)) else (none)) else (none)))) = some r := H
            have A49 := XPrint.A0 A490
            clear A490
            replace H := Option.bind_eq_some_iff.mp H
            obtain ⟨t298, A500, H⟩ := H
            try set_option simprocs false in dsimp only at H
            have A50 := XPrint.A0 A500
            clear A500
            by_cases c51 : t298 = true
            ·subst c51
             have H1 := H; rw [if_pos rfl] at H1
             clear H
             have H := H1
             clear H1
             exact absurd H (by simp)
            ·replace c51 := Bool.eq_false_iff.mpr c51
             subst c51
             have H1 := H; rw [if_neg (show ¬ (false = true) by decide)] at H1
             clear H
             have H := H1
             clear H1
             by_cases c52 : t253 = 3
             ·rw [if_pos c52] at H
              have c52b0 : (t253 == 3) = true := beq_iff_eq.mpr c52
              have c52b1 : (t253 != 3) = false := bne_eq_false_iff_eq.mpr c52
              clear c52
              by_cases c53 : t254 = 0
              ·rw [if_pos c53] at H
               have c53b0 : (t254 == 0) = true := beq_iff_eq.mpr c53
               have c53b1 : (t254 != 0) = false := bne_eq_false_iff_eq.mpr c53
               clear c53
               by_cases c54 : t259 = 0
               ·rw [if_pos c54] at H
                have c54b0 : (t259 == 0) = true := beq_iff_eq.mpr c54
                have c54b1 : (t259 != 0) = false := bne_eq_false_iff_eq.mpr c54
                clear c54
                by_cases c55 : t260 = 0
                ·rw [if_pos c55] at H
                 have c55b0 : (t260 == 0) = true := beq_iff_eq.mpr c55
                 have c55b1 : (t260 != 0) = false := bne_eq_false_iff_eq.mpr c55
                 clear c55
                 obtain rfl := Option.some.inj H
                 go_enter Try.func28, Try.ntmps28
                 try go_wp2_with (first | ((with_reducible refine gate_callee (f := 31) rfl ?_); refine XPrint.gl (some 18) Try.func31 #[.int .i64 1, .int .i64 2] ?_; (with_reducible refine (liverylaw01_of.calls 1 2 t207 t208 _ A1.out).mono ?_); rintro e w56 ⟨rfl, hb⟩; refine ⟨_, rfl, ?_⟩; replace HB := XPrint.A0 (below_step (by exact XPrint.bz HB.out) hb); (try clear hb); (try clear hb2); (try clear hk); (try clear hi)) | ((with_reducible refine gate_callee (f := 31) rfl ?_); refine XPrint.gl (some 19) Try.func31 #[.int .i64 3, .int .i64 (-5)] ?_; (with_reducible refine (liverylaw01_of.calls 3 (-5) t209 t210 _ A2.out).mono ?_); rintro e w57 ⟨rfl, hb⟩; refine ⟨_, rfl, ?_⟩; replace HB := XPrint.A0 (below_step (by exact XPrint.bz HB.out) hb); (try clear hb); (try clear hb2); (try clear hk); (try clear hi)) | ((with_reducible refine gate_dst (N := 20) rfl ?_); refine Kd.R_lit k23 _ 23 ?hg (N := 20) ?hd (xs := ([(⟨t207, t208⟩ : S23), (⟨t209, t210⟩ : S23)] : List (S23))) (inner := [.int .i64 t207, .int .i64 t208, .int .i64 t209, .int .i64 t210]) (ok := fun _ => True) (okp := fun _ => True) ?hr ?hp (fun _ hk => hk) trivial (Below.refl _ _) (Nat.le_refl _) (by simp) ?_; (case hd => rfl); (case hg => rfl); (case hr => first | (go_simp; done) | (go_simp; rfl)); (case hp => exact (Reps.c2 (show Kd.M k23 _ _ _ (⟨t207, t208⟩ : S23) [.int .i64 t207, .int .i64 t208] from (k23_mkM _ _ _ (⟨t207, t208⟩ : S23) )) (Reps.c2 (show Kd.M k23 _ _ _ (⟨t209, t210⟩ : S23) [.int .i64 t209, .int .i64 t210] from (k23_mkM _ _ _ (⟨t209, t210⟩ : S23) )) (Reps.none _ _)))); intro v212 w58 ho59 hb hg_ hnew_; clear hg_ hnew_; (first | rw [← Ny211.out] at ho59 | (simp only [Int.reduceToNat] at ho59; rw [← Ny211.out] at ho59)); have HO213 := XPrint.A0 (Kd.R_lower ho59 (below_size (by exact XPrint.bz HB.out))); replace HB := XPrint.A0 (below_step (by exact XPrint.bz HB.out) hb); clear hb ho59; obtain ⟨Ao60, co60, eo60⟩ := Kd.R_slice HO213.out; subst eo60) | ((with_reducible refine gate_callee (f := 29) rfl ?_); refine XPrint.gl (some 21) Try.func29 #[.slice Ao60 y211.length co60] ?_; (with_reducible refine (vec_Add.calls k _ _ y211 t214 t215 t216 _ ?side1 ?side2 A3.out).mono ?_); (case side1 => repeat (first | exact (Kd.R_reads' HO213.out).2.2 | (with_reducible refine Kd.C_alloc ?_ _) | (with_reducible refine Kd.C_drewN ?_ _) | (with_reducible refine Kd.C_drew ?_))); (case side2 => exact (Kd.R_reads' HO213.out).2.1); rintro e w61 ⟨rfl, hb⟩; refine ⟨_, rfl, ?_⟩; replace HO213 := XPrint.A0 (XPrint.rb HO213.out hb); replace HB := XPrint.A0 (below_step (by exact XPrint.bz HB.out) hb); (try clear hb); (try clear hb2); (try clear hk); (try clear hi)) | ((with_reducible refine gate_dst (N := 1) rfl ?_); refine box_event ?hg (N := 1) ?hd (cs := #[.int .i64 0, .int .i64 0]) (t := 23) ?hr ?_; (case hd => rfl); (case hg => rfl); (case hr => first | (go_simp; done) | (go_simp; rfl)); intro gb217 hg w62 hbox hb; have BK217 := XPrint.A0 (hbox); have GW217 := XPrint.A0 (XPrint.gz HB.out hg); have GE217 := XPrint.A0 (XPrint.gz HB.out hg); replace HO213 := XPrint.A0 (Kd.R_below (Kd.R_elderB (by (with_reducible repeat (first | apply Kd.R_alloc | apply Kd.R_drewN | apply Kd.R_drew)); exact HO213.out) gb217 (Nat.le_of_eq hg.symm)) hb); replace HB := XPrint.A0 (below_step (by exact XPrint.bz HB.out) hb); clear hb hbox hg; have hcz63_0 : w62.cell? ⟨gb217, 0, none⟩ = some (.int .i64 0) := (blk_cell BK217.out 0).trans rfl; have hcz63_1 : w62.cell? ⟨gb217, 1, none⟩ = some (.int .i64 0) := (blk_cell BK217.out 1).trans rfl; have hfz63_0 := blk_frozen BK217.out 0; have hfz63_1 := blk_frozen BK217.out 1) | ((with_reducible refine gate_callee (f := 31) rfl ?_); refine XPrint.gl (some 25) Try.func31 #[.int .i64 1, .int .i64 2] ?_; (with_reducible refine (liverylaw01_of.calls 1 2 t218 t219 _ A4.out).mono ?_); rintro e w64 ⟨rfl, hb⟩; refine ⟨_, rfl, ?_⟩; replace HO213 := XPrint.A0 (Kd.R_below (by (with_reducible repeat (first | apply Kd.R_alloc | apply Kd.R_drewN | apply Kd.R_drew)); exact (Kd.R_mono (Kd.R_far (p := ⟨gb217, 1, none⟩) (Kd.R_far (p := ⟨gb217, 0, none⟩) (Kd.R_mono HO213.out (fun k_ hk => (⟨hk, hk.2⟩ : _ ∧ k_ ≠ gb217))) (fun _ hk => hk.2) (.int .i64 t214)) (fun _ hk => hk.2) (.int .i64 t215)) (fun _ h_ => h_.1))) hb); replace BK217 := XPrint.A0 (blk_below (g := gb217) (o := .cells #[.int .i64 t214, .int .i64 t215] 23 (0, 0)) (by (repeat with_reducible first | refine XPrint.d1 ?_ | refine XPrint.d2 ?_ _ | refine XPrint.d3 ?_ _); refine blk_put (cs := #[.int .i64 t214, .int .i64 0]) ?_ 1 _ rfl; (repeat with_reducible first | refine XPrint.d1 ?_ | refine XPrint.d2 ?_ _ | refine XPrint.d3 ?_ _); refine blk_put (cs := #[.int .i64 0, .int .i64 0]) ?_ 0 _ rfl; (repeat with_reducible first | refine XPrint.d1 ?_ | refine XPrint.d2 ?_ _ | refine XPrint.d3 ?_ _); exact BK217.out) hb); replace HB := XPrint.A0 (below_step (by repeat (first | (with_reducible first | exact HB.out | apply below_alloc | apply pw_below_drewN | apply below_drew1 | refine below_set ?_ GE217.out) | exact HB.out)) hb); (try clear hb); (try clear hb2); (try clear hk); (try clear hi)) | ((with_reducible refine gate_callee (f := 31) rfl ?_); refine XPrint.gl (some 26) Try.func31 #[.int .i64 3, .int .i64 (-5)] ?_; (with_reducible refine (liverylaw01_of.calls 3 (-5) t220 t221 _ A5.out).mono ?_); rintro e w65 ⟨rfl, hb⟩; refine ⟨_, rfl, ?_⟩; replace HO213 := XPrint.A0 (XPrint.rb HO213.out hb); replace BK217 := XPrint.A0 (XPrint.ab BK217.out hb); replace HB := XPrint.A0 (below_step (by exact XPrint.bz HB.out) hb); (try clear hb); (try clear hb2); (try clear hk); (try clear hi)) | ((with_reducible refine gate_callee (f := 14) rfl ?_); refine XPrint.gl (some 27) Try.func14 #[.agg #[.int .i64 t218, .int .i64 t219], .agg #[.int .i64 t220, .int .i64 t221]] ?_; (with_reducible refine (vec_Sub.calls k t218 t219 t220 t221 t222 t223 t224 _ A6.out).mono ?_); rintro e w66 ⟨rfl, hb⟩; refine ⟨_, rfl, ?_⟩; replace HO213 := XPrint.A0 (XPrint.rb HO213.out hb); replace BK217 := XPrint.A0 (XPrint.ab BK217.out hb); replace HB := XPrint.A0 (below_step (by exact XPrint.bz HB.out) hb); (try clear hb); (try clear hb2); (try clear hk); (try clear hi)) | ((with_reducible refine gate_dst (N := 3) rfl ?_); refine box_event ?hg (N := 3) ?hd (cs := #[.int .i64 0, .int .i64 0]) (t := 23) ?hr ?_; (case hd => rfl); (case hg => rfl); (case hr => first | (go_simp; done) | (go_simp; rfl)); intro gb225 hg w67 hbox hb; have BK225 := XPrint.A0 (hbox); have GW225 := XPrint.A0 (XPrint.gz HB.out hg); have GE225 := XPrint.A0 (XPrint.gz HB.out hg); have NB217_225 := XPrint.A1 (by rw [hg]; exact Nat.ne_of_lt (XPrint.al BK217.out) : gb217 ≠ gb225); have NB225_217 := XPrint.A1 (by rw [hg]; exact Nat.ne_of_gt (XPrint.al BK217.out) : gb225 ≠ gb217); replace HO213 := XPrint.A0 (Kd.R_below (Kd.R_elderB (by (with_reducible repeat (first | apply Kd.R_alloc | apply Kd.R_drewN | apply Kd.R_drew)); exact HO213.out) gb225 (Nat.le_of_eq hg.symm)) hb); replace BK217 := XPrint.A0 (XPrint.ab BK217.out hb); replace HB := XPrint.A0 (below_step (by exact XPrint.bz HB.out) hb); clear hb hbox hg; have hnb68 := NB225_217.out; have hnc68 := NB217_225.out; have hcz69_0 : w67.cell? ⟨gb225, 0, none⟩ = some (.int .i64 0) := (blk_cell BK225.out 0).trans rfl; have hcz69_1 : w67.cell? ⟨gb225, 1, none⟩ = some (.int .i64 0) := (blk_cell BK225.out 1).trans rfl; have hfz69_0 := blk_frozen BK225.out 0; have hfz69_1 := blk_frozen BK225.out 1) | ((with_reducible refine gate_callee (f := 31) rfl ?_); refine XPrint.gl (some 31) Try.func31 #[.int .i64 2, .int .i64 (-3)] ?_; (with_reducible refine (liverylaw01_of.calls 2 (-3) t226 t227 _ A7.out).mono ?_); rintro e w70 ⟨rfl, hb⟩; refine ⟨_, rfl, ?_⟩; replace HO213 := XPrint.A0 (Kd.R_below (by (with_reducible repeat (first | apply Kd.R_alloc | apply Kd.R_drewN | apply Kd.R_drew)); exact (Kd.R_mono (Kd.R_far (p := ⟨gb225, 1, none⟩) (Kd.R_far (p := ⟨gb225, 0, none⟩) (Kd.R_mono HO213.out (fun k_ hk => (⟨hk, hk.2⟩ : _ ∧ k_ ≠ gb225))) (fun _ hk => hk.2) (.int .i64 t222)) (fun _ hk => hk.2) (.int .i64 t223)) (fun _ h_ => h_.1))) hb); replace BK217 := XPrint.A0 (XPrint.ab BK217.out hb); replace BK225 := XPrint.A0 (blk_below (g := gb225) (o := .cells #[.int .i64 t222, .int .i64 t223] 23 (0, 0)) (by (repeat with_reducible first | refine XPrint.d1 ?_ | refine XPrint.d2 ?_ _ | refine XPrint.d3 ?_ _); refine blk_put (cs := #[.int .i64 t222, .int .i64 0]) ?_ 1 _ rfl; (repeat with_reducible first | refine XPrint.d1 ?_ | refine XPrint.d2 ?_ _ | refine XPrint.d3 ?_ _); refine blk_put (cs := #[.int .i64 0, .int .i64 0]) ?_ 0 _ rfl; (repeat with_reducible first | refine XPrint.d1 ?_ | refine XPrint.d2 ?_ _ | refine XPrint.d3 ?_ _); exact BK225.out) hb); replace HB := XPrint.A0 (below_step (by repeat (first | (with_reducible first | exact HB.out | apply below_alloc | apply pw_below_drewN | apply below_drew1 | refine below_set ?_ GE217.out | refine below_set ?_ GE225.out) | exact HB.out)) hb); (try clear hb); (try clear hb2); (try clear hk); (try clear hi)) | ((with_reducible refine gate_callee (f := 16) rfl ?_); refine XPrint.gl (some 32) Try.func16 #[.agg #[.int .i64 t226, .int .i64 t227], .int .i64 4] ?_; (with_reducible refine (vec_Scale.calls t226 t227 4 t228 t229 t230 _ A8.out).mono ?_); rintro e w71 ⟨rfl, hb⟩; refine ⟨_, rfl, ?_⟩; replace HO213 := XPrint.A0 (XPrint.rb HO213.out hb); replace BK217 := XPrint.A0 (XPrint.ab BK217.out hb); replace BK225 := XPrint.A0 (XPrint.ab BK225.out hb); replace HB := XPrint.A0 (below_step (by exact XPrint.bz HB.out) hb); (try clear hb); (try clear hb2); (try clear hk); (try clear hi)) | ((with_reducible refine gate_dst (N := 5) rfl ?_); refine box_event ?hg (N := 5) ?hd (cs := #[.int .i64 0, .int .i64 0]) (t := 23) ?hr ?_; (case hd => rfl); (case hg => rfl); (case hr => first | (go_simp; done) | (go_simp; rfl)); intro gb231 hg w72 hbox hb; have BK231 := XPrint.A0 (hbox); have GW231 := XPrint.A0 (XPrint.gz HB.out hg); have GE231 := XPrint.A0 (XPrint.gz HB.out hg); have NB217_231 := XPrint.A1 (by rw [hg]; exact Nat.ne_of_lt (XPrint.al BK217.out) : gb217 ≠ gb231); have NB231_217 := XPrint.A1 (by rw [hg]; exact Nat.ne_of_gt (XPrint.al BK217.out) : gb231 ≠ gb217); have NB225_231 := XPrint.A1 (by rw [hg]; exact Nat.ne_of_lt (XPrint.al BK225.out) : gb225 ≠ gb231); have NB231_225 := XPrint.A1 (by rw [hg]; exact Nat.ne_of_gt (XPrint.al BK225.out) : gb231 ≠ gb225); replace HO213 := XPrint.A0 (Kd.R_below (Kd.R_elderB (by (with_reducible repeat (first | apply Kd.R_alloc | apply Kd.R_drewN | apply Kd.R_drew)); exact HO213.out) gb231 (Nat.le_of_eq hg.symm)) hb); replace BK217 := XPrint.A0 (XPrint.ab BK217.out hb); replace BK225 := XPrint.A0 (XPrint.ab BK225.out hb); replace HB := XPrint.A0 (below_step (by exact XPrint.bz HB.out) hb); clear hb hbox hg; have hnb73 := NB231_217.out; have hnc73 := NB217_231.out; have hnb74 := NB231_225.out; have hnc74 := NB225_231.out; have hcz75_0 : w72.cell? ⟨gb231, 0, none⟩ = some (.int .i64 0) := (blk_cell BK231.out 0).trans rfl; have hcz75_1 : w72.cell? ⟨gb231, 1, none⟩ = some (.int .i64 0) := (blk_cell BK231.out 1).trans rfl; have hfz75_0 := blk_frozen BK231.out 0; have hfz75_1 := blk_frozen BK231.out 1) | ((with_reducible refine gate_callee (f := 31) rfl ?_); refine XPrint.gl (some 36) Try.func31 #[.int .i64 1125899906842624, .int .i64 0] ?_; (with_reducible refine (liverylaw01_of.calls 1125899906842624 0 t232 t233 _ A9.out).mono ?_); rintro e w76 ⟨rfl, hb⟩; refine ⟨_, rfl, ?_⟩; replace HO213 := XPrint.A0 (Kd.R_below (by (with_reducible repeat (first | apply Kd.R_alloc | apply Kd.R_drewN | apply Kd.R_drew)); exact (Kd.R_mono (Kd.R_far (p := ⟨gb231, 1, none⟩) (Kd.R_far (p := ⟨gb231, 0, none⟩) (Kd.R_mono HO213.out (fun k_ hk => (⟨hk, hk.2⟩ : _ ∧ k_ ≠ gb231))) (fun _ hk => hk.2) (.int .i64 t228)) (fun _ hk => hk.2) (.int .i64 t229)) (fun _ h_ => h_.1))) hb); replace BK217 := XPrint.A0 (XPrint.ab BK217.out hb); replace BK225 := XPrint.A0 (XPrint.ab BK225.out hb); replace BK231 := XPrint.A0 (blk_below (g := gb231) (o := .cells #[.int .i64 t228, .int .i64 t229] 23 (0, 0)) (by (repeat with_reducible first | refine XPrint.d1 ?_ | refine XPrint.d2 ?_ _ | refine XPrint.d3 ?_ _); refine blk_put (cs := #[.int .i64 t228, .int .i64 0]) ?_ 1 _ rfl; (repeat with_reducible first | refine XPrint.d1 ?_ | refine XPrint.d2 ?_ _ | refine XPrint.d3 ?_ _); refine blk_put (cs := #[.int .i64 0, .int .i64 0]) ?_ 0 _ rfl; (repeat with_reducible first | refine XPrint.d1 ?_ | refine XPrint.d2 ?_ _ | refine XPrint.d3 ?_ _); exact BK231.out) hb); replace HB := XPrint.A0 (below_step (by repeat (first | (with_reducible first | exact HB.out | apply below_alloc | apply pw_below_drewN | apply below_drew1 | refine below_set ?_ GE217.out | refine below_set ?_ GE225.out | refine below_set ?_ GE231.out) | exact HB.out)) hb); (try clear hb); (try clear hb2); (try clear hk); (try clear hi)) | ((with_reducible refine gate_callee (f := 31) rfl ?_); refine XPrint.gl (some 37) Try.func31 #[.int .i64 1, .int .i64 0] ?_; (with_reducible refine (liverylaw01_of.calls 1 0 t234 t235 _ A10.out).mono ?_); rintro e w77 ⟨rfl, hb⟩; refine ⟨_, rfl, ?_⟩; replace HO213 := XPrint.A0 (XPrint.rb HO213.out hb); replace BK217 := XPrint.A0 (XPrint.ab BK217.out hb); replace BK225 := XPrint.A0 (XPrint.ab BK225.out hb); replace BK231 := XPrint.A0 (XPrint.ab BK231.out hb); replace HB := XPrint.A0 (below_step (by exact XPrint.bz HB.out) hb); (try clear hb); (try clear hb2); (try clear hk); (try clear hi)) | ((with_reducible refine gate_dst (N := 38) rfl ?_); refine Kd.R_lit k23 _ 23 ?hg (N := 38) ?hd (xs := ([(⟨t232, t233⟩ : S23), (⟨t234, t235⟩ : S23)] : List (S23))) (inner := [.int .i64 t232, .int .i64 t233, .int .i64 t234, .int .i64 t235]) (ok := fun _ => True) (okp := fun _ => True) ?hr ?hp (fun _ hk => hk) trivial (Below.refl _ _) (Nat.le_refl _) (by simp) ?_; (case hd => rfl); (case hg => rfl); (case hr => first | (go_simp; done) | (go_simp; rfl)); (case hp => exact (Reps.c2 (show Kd.M k23 _ _ _ (⟨t232, t233⟩ : S23) [.int .i64 t232, .int .i64 t233] from (k23_mkM _ _ _ (⟨t232, t233⟩ : S23) )) (Reps.c2 (show Kd.M k23 _ _ _ (⟨t234, t235⟩ : S23) [.int .i64 t234, .int .i64 t235] from (k23_mkM _ _ _ (⟨t234, t235⟩ : S23) )) (Reps.none _ _)))); intro v237 w78 ho79 hb hg_ hnew_; clear hg_ hnew_; (first | rw [← Ny236.out] at ho79 | (simp only [Int.reduceToNat] at ho79; rw [← Ny236.out] at ho79)); have HO238 := XPrint.A0 (Kd.R_lower (Kd.R_newB (Kd.R_newB (Kd.R_newB (Kd.R_new' ho79 (Kd.R_lt (by (with_reducible repeat (first | apply Kd.R_alloc | apply Kd.R_drewN | apply Kd.R_drew)); exact HO213.out))) (g := gb217) (o := .cells #[.int .i64 t214, .int .i64 t215] 23 (0, 0)) (XPrint.ak BK217.out)) (g := gb225) (o := .cells #[.int .i64 t222, .int .i64 t223] 23 (0, 0)) (XPrint.ak BK225.out)) (g := gb231) (o := .cells #[.int .i64 t228, .int .i64 t229] 23 (0, 0)) (XPrint.ak BK231.out)) (below_size (by exact XPrint.bz HB.out))); replace HO213 := XPrint.A0 (Kd.R_elder' (by (with_reducible repeat (first | apply Kd.R_alloc | apply Kd.R_drewN | apply Kd.R_drew)); exact HO213.out) (Kd.R_base ho79) hb); replace BK217 := XPrint.A0 (XPrint.ab BK217.out hb); replace BK225 := XPrint.A0 (XPrint.ab BK225.out hb); replace BK231 := XPrint.A0 (XPrint.ab BK231.out hb); replace HB := XPrint.A0 (below_step (by exact XPrint.bz HB.out) hb); clear hb ho79; obtain ⟨Ao80, co80, eo80⟩ := Kd.R_slice HO238.out; subst eo80) | ((with_reducible refine gate_callee (f := 29) rfl ?_); refine XPrint.gl (some 39) Try.func29 #[.slice Ao80 y236.length co80] ?_; (with_reducible refine (vec_Add.calls k _ _ y236 t239 t240 t241 _ ?side1 ?side2 A11.out).mono ?_); (case side1 => repeat (first | exact (Kd.R_reads' HO238.out).2.2 | (with_reducible refine Kd.C_alloc ?_ _) | (with_reducible refine Kd.C_drewN ?_ _) | (with_reducible refine Kd.C_drew ?_))); (case side2 => exact (Kd.R_reads' HO238.out).2.1); rintro e w81 ⟨rfl, hb⟩; refine ⟨_, rfl, ?_⟩; replace HO213 := XPrint.A0 (XPrint.rb HO213.out hb); replace HO238 := XPrint.A0 (XPrint.rb HO238.out hb); replace BK217 := XPrint.A0 (XPrint.ab BK217.out hb); replace BK225 := XPrint.A0 (XPrint.ab BK225.out hb); replace BK231 := XPrint.A0 (XPrint.ab BK231.out hb); replace HB := XPrint.A0 (below_step (by exact XPrint.bz HB.out) hb); (try clear hb); (try clear hb2); (try clear hk); (try clear hi)) | ((with_reducible refine gate_dst (N := 7) rfl ?_); refine box_event ?hg (N := 7) ?hd (cs := #[.int .i64 0, .int .i64 0]) (t := 23) ?hr ?_; (case hd => rfl); (case hg => rfl); (case hr => first | (go_simp; done) | (go_simp; rfl)); intro gb242 hg w82 hbox hb; have BK242 := XPrint.A0 (hbox); have GW242 := XPrint.A0 (XPrint.gz HB.out hg); have GE242 := XPrint.A0 (XPrint.gz HB.out hg); have NB217_242 := XPrint.A1 (by rw [hg]; exact Nat.ne_of_lt (XPrint.al BK217.out) : gb217 ≠ gb242); have NB242_217 := XPrint.A1 (by rw [hg]; exact Nat.ne_of_gt (XPrint.al BK217.out) : gb242 ≠ gb217); have NB225_242 := XPrint.A1 (by rw [hg]; exact Nat.ne_of_lt (XPrint.al BK225.out) : gb225 ≠ gb242); have NB242_225 := XPrint.A1 (by rw [hg]; exact Nat.ne_of_gt (XPrint.al BK225.out) : gb242 ≠ gb225); have NB231_242 := XPrint.A1 (by rw [hg]; exact Nat.ne_of_lt (XPrint.al BK231.out) : gb231 ≠ gb242); have NB242_231 := XPrint.A1 (by rw [hg]; exact Nat.ne_of_gt (XPrint.al BK231.out) : gb242 ≠ gb231); replace HO213 := XPrint.A0 (Kd.R_below (Kd.R_elderB (by (with_reducible repeat (first | apply Kd.R_alloc | apply Kd.R_drewN | apply Kd.R_drew)); exact HO213.out) gb242 (Nat.le_of_eq hg.symm)) hb); replace HO238 := XPrint.A0 (Kd.R_below (Kd.R_elderB (by (with_reducible repeat (first | apply Kd.R_alloc | apply Kd.R_drewN | apply Kd.R_drew)); exact HO238.out) gb242 (Nat.le_of_eq hg.symm)) hb); replace BK217 := XPrint.A0 (XPrint.ab BK217.out hb); replace BK225 := XPrint.A0 (XPrint.ab BK225.out hb); replace BK231 := XPrint.A0 (XPrint.ab BK231.out hb); replace HB := XPrint.A0 (below_step (by exact XPrint.bz HB.out) hb); clear hb hbox hg; have hnb83 := NB242_217.out; have hnc83 := NB217_242.out; have hnb84 := NB242_225.out; have hnc84 := NB225_242.out; have hnb85 := NB242_231.out; have hnc85 := NB231_242.out; have hcz86_0 : w82.cell? ⟨gb242, 0, none⟩ = some (.int .i64 0) := (blk_cell BK242.out 0).trans rfl; have hcz86_1 : w82.cell? ⟨gb242, 1, none⟩ = some (.int .i64 0) := (blk_cell BK242.out 1).trans rfl; have hfz86_0 := blk_frozen BK242.out 0; have hfz86_1 := blk_frozen BK242.out 1) | ((with_reducible refine gate_callee (f := 31) rfl ?_); refine XPrint.gl (some 43) Try.func31 #[.int .i64 562949953421312, .int .i64 0] ?_; (with_reducible refine (liverylaw01_of.calls 562949953421312 0 t243 t244 _ A12.out).mono ?_); rintro e w87 ⟨rfl, hb⟩; refine ⟨_, rfl, ?_⟩; replace HO213 := XPrint.A0 (Kd.R_below (by (with_reducible repeat (first | apply Kd.R_alloc | apply Kd.R_drewN | apply Kd.R_drew)); exact (Kd.R_mono (Kd.R_far (p := ⟨gb242, 1, none⟩) (Kd.R_far (p := ⟨gb242, 0, none⟩) (Kd.R_mono HO213.out (fun k_ hk => (⟨hk, hk.2⟩ : _ ∧ k_ ≠ gb242))) (fun _ hk => hk.2) (.int .i64 t239)) (fun _ hk => hk.2) (.int .i64 t240)) (fun _ h_ => h_.1))) hb); replace HO238 := XPrint.A0 (Kd.R_below (by (with_reducible repeat (first | apply Kd.R_alloc | apply Kd.R_drewN | apply Kd.R_drew)); exact (Kd.R_mono (Kd.R_far (p := ⟨gb242, 1, none⟩) (Kd.R_far (p := ⟨gb242, 0, none⟩) (Kd.R_mono HO238.out (fun k_ hk => (⟨hk, hk.2⟩ : _ ∧ k_ ≠ gb242))) (fun _ hk => hk.2) (.int .i64 t239)) (fun _ hk => hk.2) (.int .i64 t240)) (fun _ h_ => h_.1))) hb); replace BK217 := XPrint.A0 (XPrint.ab BK217.out hb); replace BK225 := XPrint.A0 (XPrint.ab BK225.out hb); replace BK231 := XPrint.A0 (XPrint.ab BK231.out hb); replace BK242 := XPrint.A0 (blk_below (g := gb242) (o := .cells #[.int .i64 t239, .int .i64 t240] 23 (0, 0)) (by (repeat with_reducible first | refine XPrint.d1 ?_ | refine XPrint.d2 ?_ _ | refine XPrint.d3 ?_ _); refine blk_put (cs := #[.int .i64 t239, .int .i64 0]) ?_ 1 _ rfl; (repeat with_reducible first | refine XPrint.d1 ?_ | refine XPrint.d2 ?_ _ | refine XPrint.d3 ?_ _); refine blk_put (cs := #[.int .i64 0, .int .i64 0]) ?_ 0 _ rfl; (repeat with_reducible first | refine XPrint.d1 ?_ | refine XPrint.d2 ?_ _ | refine XPrint.d3 ?_ _); exact BK242.out) hb); replace HB := XPrint.A0 (below_step (by repeat (first | (with_reducible first | exact HB.out | apply below_alloc | apply pw_below_drewN | apply below_drew1 | refine below_set ?_ GE217.out | refine below_set ?_ GE225.out | refine below_set ?_ GE231.out | refine below_set ?_ GE242.out) | exact HB.out)) hb); (try clear hb); (try clear hb2); (try clear hk); (try clear hi)) | ((with_reducible refine gate_callee (f := 16) rfl ?_); refine XPrint.gl (some 44) Try.func16 #[.agg #[.int .i64 t243, .int .i64 t244], .int .i64 3] ?_; (with_reducible refine (vec_Scale.calls t243 t244 3 t245 t246 t247 _ A13.out).mono ?_); rintro e w88 ⟨rfl, hb⟩; refine ⟨_, rfl, ?_⟩; replace HO213 := XPrint.A0 (XPrint.rb HO213.out hb); replace HO238 := XPrint.A0 (XPrint.rb HO238.out hb); replace BK217 := XPrint.A0 (XPrint.ab BK217.out hb); replace BK225 := XPrint.A0 (XPrint.ab BK225.out hb); replace BK231 := XPrint.A0 (XPrint.ab BK231.out hb); replace BK242 := XPrint.A0 (XPrint.ab BK242.out hb); replace HB := XPrint.A0 (below_step (by exact XPrint.bz HB.out) hb); (try clear hb); (try clear hb2); (try clear hk); (try clear hi)) | ((with_reducible refine gate_dst (N := 9) rfl ?_); refine box_event ?hg (N := 9) ?hd (cs := #[.int .i64 0, .int .i64 0]) (t := 23) ?hr ?_; (case hd => rfl); (case hg => rfl); (case hr => first | (go_simp; done) | (go_simp; rfl)); intro gb248 hg w89 hbox hb; have BK248 := XPrint.A0 (hbox); have GW248 := XPrint.A0 (XPrint.gz HB.out hg); have GE248 := XPrint.A0 (XPrint.gz HB.out hg); have NB217_248 := XPrint.A1 (by rw [hg]; exact Nat.ne_of_lt (XPrint.al BK217.out) : gb217 ≠ gb248); have NB248_217 := XPrint.A1 (by rw [hg]; exact Nat.ne_of_gt (XPrint.al BK217.out) : gb248 ≠ gb217); have NB225_248 := XPrint.A1 (by rw [hg]; exact Nat.ne_of_lt (XPrint.al BK225.out) : gb225 ≠ gb248); have NB248_225 := XPrint.A1 (by rw [hg]; exact Nat.ne_of_gt (XPrint.al BK225.out) : gb248 ≠ gb225); have NB231_248 := XPrint.A1 (by rw [hg]; exact Nat.ne_of_lt (XPrint.al BK231.out) : gb231 ≠ gb248); have NB248_231 := XPrint.A1 (by rw [hg]; exact Nat.ne_of_gt (XPrint.al BK231.out) : gb248 ≠ gb231); have NB242_248 := XPrint.A1 (by rw [hg]; exact Nat.ne_of_lt (XPrint.al BK242.out) : gb242 ≠ gb248); have NB248_242 := XPrint.A1 (by rw [hg]; exact Nat.ne_of_gt (XPrint.al BK242.out) : gb248 ≠ gb242); replace HO213 := XPrint.A0 (Kd.R_below (Kd.R_elderB (by (with_reducible repeat (first | apply Kd.R_alloc | apply Kd.R_drewN | apply Kd.R_drew)); exact HO213.out) gb248 (Nat.le_of_eq hg.symm)) hb); replace HO238 := XPrint.A0 (Kd.R_below (Kd.R_elderB (by (with_reducible repeat (first | apply Kd.R_alloc | apply Kd.R_drewN | apply Kd.R_drew)); exact HO238.out) gb248 (Nat.le_of_eq hg.symm)) hb); replace BK217 := XPrint.A0 (XPrint.ab BK217.out hb); replace BK225 := XPrint.A0 (XPrint.ab BK225.out hb); replace BK231 := XPrint.A0 (XPrint.ab BK231.out hb); replace BK242 := XPrint.A0 (XPrint.ab BK242.out hb); replace HB := XPrint.A0 (below_step (by exact XPrint.bz HB.out) hb); clear hb hbox hg; have hnb90 := NB248_217.out; have hnc90 := NB217_248.out; have hnb91 := NB248_225.out; have hnc91 := NB225_248.out; have hnb92 := NB248_231.out; have hnc92 := NB231_248.out; have hnb93 := NB248_242.out; have hnc93 := NB242_248.out; have hcz94_0 : w89.cell? ⟨gb248, 0, none⟩ = some (.int .i64 0) := (blk_cell BK248.out 0).trans rfl; have hcz94_1 : w89.cell? ⟨gb248, 1, none⟩ = some (.int .i64 0) := (blk_cell BK248.out 1).trans rfl; have hfz94_0 := blk_frozen BK248.out 0; have hfz94_1 := blk_frozen BK248.out 1) | ((with_reducible refine gate_callee (f := 31) rfl ?_); refine XPrint.gl (some 48) Try.func31 #[.int .i64 10, .int .i64 7] ?_; (with_reducible refine (liverylaw01_of.calls 10 7 t249 t250 _ A14.out).mono ?_); rintro e w95 ⟨rfl, hb⟩; refine ⟨_, rfl, ?_⟩; replace HO213 := XPrint.A0 (Kd.R_below (by (with_reducible repeat (first | apply Kd.R_alloc | apply Kd.R_drewN | apply Kd.R_drew)); exact (Kd.R_mono (Kd.R_far (p := ⟨gb248, 1, none⟩) (Kd.R_far (p := ⟨gb248, 0, none⟩) (Kd.R_mono HO213.out (fun k_ hk => (⟨hk, hk.2⟩ : _ ∧ k_ ≠ gb248))) (fun _ hk => hk.2) (.int .i64 t245)) (fun _ hk => hk.2) (.int .i64 t246)) (fun _ h_ => h_.1))) hb); replace HO238 := XPrint.A0 (Kd.R_below (by (with_reducible repeat (first | apply Kd.R_alloc | apply Kd.R_drewN | apply Kd.R_drew)); exact (Kd.R_mono (Kd.R_far (p := ⟨gb248, 1, none⟩) (Kd.R_far (p := ⟨gb248, 0, none⟩) (Kd.R_mono HO238.out (fun k_ hk => (⟨hk, hk.2⟩ : _ ∧ k_ ≠ gb248))) (fun _ hk => hk.2) (.int .i64 t245)) (fun _ hk => hk.2) (.int .i64 t246)) (fun _ h_ => h_.1))) hb); replace BK217 := XPrint.A0 (XPrint.ab BK217.out hb); replace BK225 := XPrint.A0 (XPrint.ab BK225.out hb); replace BK231 := XPrint.A0 (XPrint.ab BK231.out hb); replace BK242 := XPrint.A0 (XPrint.ab BK242.out hb); replace BK248 := XPrint.A0 (blk_below (g := gb248) (o := .cells #[.int .i64 t245, .int .i64 t246] 23 (0, 0)) (by (repeat with_reducible first | refine XPrint.d1 ?_ | refine XPrint.d2 ?_ _ | refine XPrint.d3 ?_ _); refine blk_put (cs := #[.int .i64 t245, .int .i64 0]) ?_ 1 _ rfl; (repeat with_reducible first | refine XPrint.d1 ?_ | refine XPrint.d2 ?_ _ | refine XPrint.d3 ?_ _); refine blk_put (cs := #[.int .i64 0, .int .i64 0]) ?_ 0 _ rfl; (repeat with_reducible first | refine XPrint.d1 ?_ | refine XPrint.d2 ?_ _ | refine XPrint.d3 ?_ _); exact BK248.out) hb); replace HB := XPrint.A0 (below_step (by repeat (first | (with_reducible first | exact HB.out | apply below_alloc | apply pw_below_drewN | apply below_drew1 | refine below_set ?_ GE217.out | refine below_set ?_ GE225.out | refine below_set ?_ GE231.out | refine below_set ?_ GE242.out | refine below_set ?_ GE248.out) | exact HB.out)) hb); (try clear hb); (try clear hb2); (try clear hk); (try clear hi)) | ((with_reducible refine gate_callee (f := 31) rfl ?_); refine XPrint.gl (some 49) Try.func31 #[.int .i64 3, .int .i64 2] ?_; (with_reducible refine (liverylaw01_of.calls 3 2 t251 t252 _ A15.out).mono ?_); rintro e w96 ⟨rfl, hb⟩; refine ⟨_, rfl, ?_⟩; replace HO213 := XPrint.A0 (XPrint.rb HO213.out hb); replace HO238 := XPrint.A0 (XPrint.rb HO238.out hb); replace BK217 := XPrint.A0 (XPrint.ab BK217.out hb); replace BK225 := XPrint.A0 (XPrint.ab BK225.out hb); replace BK231 := XPrint.A0 (XPrint.ab BK231.out hb); replace BK242 := XPrint.A0 (XPrint.ab BK242.out hb); replace BK248 := XPrint.A0 (XPrint.ab BK248.out hb); replace HB := XPrint.A0 (below_step (by exact XPrint.bz HB.out) hb); (try clear hb); (try clear hb2); (try clear hk); (try clear hi)) | ((with_reducible refine gate_callee (f := 18) rfl ?_); refine XPrint.gl (some 50) Try.func18 #[.agg #[.int .i64 t249, .int .i64 t250], .agg #[.int .i64 t251, .int .i64 t252]] ?_; (with_reducible refine (vec_Units.calls k t249 t250 t251 t252 t253 t254 _ A16.out).mono ?_); rintro e w97 ⟨rfl, hb⟩; refine ⟨_, rfl, ?_⟩; replace HO213 := XPrint.A0 (XPrint.rb HO213.out hb); replace HO238 := XPrint.A0 (XPrint.rb HO238.out hb); replace BK217 := XPrint.A0 (XPrint.ab BK217.out hb); replace BK225 := XPrint.A0 (XPrint.ab BK225.out hb); replace BK231 := XPrint.A0 (XPrint.ab BK231.out hb); replace BK242 := XPrint.A0 (XPrint.ab BK242.out hb); replace BK248 := XPrint.A0 (XPrint.ab BK248.out hb); replace HB := XPrint.A0 (below_step (by exact XPrint.bz HB.out) hb); (try clear hb); (try clear hb2); (try clear hk); (try clear hi)) | ((with_reducible refine gate_callee (f := 31) rfl ?_); refine XPrint.gl (some 54) Try.func31 #[.int .i64 (-1), .int .i64 9] ?_; (with_reducible refine (liverylaw01_of.calls (-1) 9 t255 t256 _ A17.out).mono ?_); rintro e w98 ⟨rfl, hb⟩; refine ⟨_, rfl, ?_⟩; replace HO213 := XPrint.A0 (XPrint.rb HO213.out hb); replace HO238 := XPrint.A0 (XPrint.rb HO238.out hb); replace BK217 := XPrint.A0 (XPrint.ab BK217.out hb); replace BK225 := XPrint.A0 (XPrint.ab BK225.out hb); replace BK231 := XPrint.A0 (XPrint.ab BK231.out hb); replace BK242 := XPrint.A0 (XPrint.ab BK242.out hb); replace BK248 := XPrint.A0 (XPrint.ab BK248.out hb); replace HB := XPrint.A0 (below_step (by exact XPrint.bz HB.out) hb); (try clear hb); (try clear hb2); (try clear hk); (try clear hi)) | ((with_reducible refine gate_callee (f := 31) rfl ?_); refine XPrint.gl (some 55) Try.func31 #[.int .i64 1, .int .i64 1] ?_; (with_reducible refine (liverylaw01_of.calls 1 1 t257 t258 _ A18.out).mono ?_); rintro e w99 ⟨rfl, hb⟩; refine ⟨_, rfl, ?_⟩; replace HO213 := XPrint.A0 (XPrint.rb HO213.out hb); replace HO238 := XPrint.A0 (XPrint.rb HO238.out hb); replace BK217 := XPrint.A0 (XPrint.ab BK217.out hb); replace BK225 := XPrint.A0 (XPrint.ab BK225.out hb); replace BK231 := XPrint.A0 (XPrint.ab BK231.out hb); replace BK242 := XPrint.A0 (XPrint.ab BK242.out hb); replace BK248 := XPrint.A0 (XPrint.ab BK248.out hb); replace HB := XPrint.A0 (below_step (by exact XPrint.bz HB.out) hb); (try clear hb); (try clear hb2); (try clear hk); (try clear hi)) | ((with_reducible refine gate_callee (f := 18) rfl ?_); refine XPrint.gl (some 56) Try.func18 #[.agg #[.int .i64 t255, .int .i64 t256], .agg #[.int .i64 t257, .int .i64 t258]] ?_; (with_reducible refine (vec_Units.calls k t255 t256 t257 t258 t259 t260 _ A19.out).mono ?_); rintro e w100 ⟨rfl, hb⟩; refine ⟨_, rfl, ?_⟩; replace HO213 := XPrint.A0 (XPrint.rb HO213.out hb); replace HO238 := XPrint.A0 (XPrint.rb HO238.out hb); replace BK217 := XPrint.A0 (XPrint.ab BK217.out hb); replace BK225 := XPrint.A0 (XPrint.ab BK225.out hb); replace BK231 := XPrint.A0 (XPrint.ab BK231.out hb); replace BK242 := XPrint.A0 (XPrint.ab BK242.out hb); replace BK248 := XPrint.A0 (XPrint.ab BK248.out hb); replace HB := XPrint.A0 (below_step (by exact XPrint.bz HB.out) hb); (try clear hb); (try clear hb2); (try clear hk); (try clear hi)) | ((with_reducible refine gate_callee (f := 31) rfl ?_); refine XPrint.gl (some 60) Try.func31 #[.int .i64 1, .int .i64 1] ?_; (with_reducible refine (liverylaw01_of.calls 1 1 t261 t262 _ A20.out).mono ?_); rintro e w101 ⟨rfl, hb⟩; refine ⟨_, rfl, ?_⟩; replace HO213 := XPrint.A0 (XPrint.rb HO213.out hb); replace HO238 := XPrint.A0 (XPrint.rb HO238.out hb); replace BK217 := XPrint.A0 (XPrint.ab BK217.out hb); replace BK225 := XPrint.A0 (XPrint.ab BK225.out hb); replace BK231 := XPrint.A0 (XPrint.ab BK231.out hb); replace BK242 := XPrint.A0 (XPrint.ab BK242.out hb); replace BK248 := XPrint.A0 (XPrint.ab BK248.out hb); replace HB := XPrint.A0 (below_step (by exact XPrint.bz HB.out) hb); (try clear hb); (try clear hb2); (try clear hk); (try clear hi)) | ((with_reducible refine gate_callee (f := 31) rfl ?_); refine XPrint.gl (some 61) Try.func31 #[.int .i64 0, .int .i64 1] ?_; (with_reducible refine (liverylaw01_of.calls 0 1 t263 t264 _ A21.out).mono ?_); rintro e w102 ⟨rfl, hb⟩; refine ⟨_, rfl, ?_⟩; replace HO213 := XPrint.A0 (XPrint.rb HO213.out hb); replace HO238 := XPrint.A0 (XPrint.rb HO238.out hb); replace BK217 := XPrint.A0 (XPrint.ab BK217.out hb); replace BK225 := XPrint.A0 (XPrint.ab BK225.out hb); replace BK231 := XPrint.A0 (XPrint.ab BK231.out hb); replace BK242 := XPrint.A0 (XPrint.ab BK242.out hb); replace BK248 := XPrint.A0 (XPrint.ab BK248.out hb); replace HB := XPrint.A0 (below_step (by exact XPrint.bz HB.out) hb); (try clear hb); (try clear hb2); (try clear hk); (try clear hi)) | ((with_reducible refine gate_callee (f := 18) rfl ?_); refine XPrint.gl (some 62) Try.func18 #[.agg #[.int .i64 t261, .int .i64 t262], .agg #[.int .i64 t263, .int .i64 t264]] ?_; (with_reducible refine (vec_Units.calls k t261 t262 t263 t264 t265 t266 _ A22.out).mono ?_); rintro e w103 ⟨rfl, hb⟩; refine ⟨_, rfl, ?_⟩; replace HO213 := XPrint.A0 (XPrint.rb HO213.out hb); replace HO238 := XPrint.A0 (XPrint.rb HO238.out hb); replace BK217 := XPrint.A0 (XPrint.ab BK217.out hb); replace BK225 := XPrint.A0 (XPrint.ab BK225.out hb); replace BK231 := XPrint.A0 (XPrint.ab BK231.out hb); replace BK242 := XPrint.A0 (XPrint.ab BK242.out hb); replace BK248 := XPrint.A0 (XPrint.ab BK248.out hb); replace HB := XPrint.A0 (below_step (by exact XPrint.bz HB.out) hb); (try clear hb); (try clear hb2); (try clear hk); (try clear hi)))
                 replace HO213 := XPrint.A0 (Kd.R_drew HO213.out)
                 replace HO238 := XPrint.A0 (Kd.R_drew HO238.out)
                 replace BK217 := XPrint.A0 (blk_drew BK217.out)
                 replace BK225 := XPrint.A0 (blk_drew BK225.out)
                 replace BK231 := XPrint.A0 (blk_drew BK231.out)
                 replace BK242 := XPrint.A0 (blk_drew BK242.out)
                 replace BK248 := XPrint.A0 (blk_drew BK248.out)
                 replace HB := XPrint.A0 (below_drew1 HB.out)
                 refine start_ (n := 79) (S := fun w' => w'.cell? ⟨gb217, 0, none⟩ = some (.int .i64 t214) ∧ w'.cell? ⟨gb217, 1, none⟩ = some (.int .i64 t215) ∧ w'.cell? ⟨gb225, 0, none⟩ = some (.int .i64 t222) ∧ w'.cell? ⟨gb225, 1, none⟩ = some (.int .i64 t223) ∧ w'.cell? ⟨gb231, 0, none⟩ = some (.int .i64 t228) ∧ w'.cell? ⟨gb231, 1, none⟩ = some (.int .i64 t229)) (ds := []) #[false, false, false, false, false, false, false, false, false, false, false, false, false, false, false, false, false, false, false, false, false, false, false, false, false, false, false, false, false, false, false, false, false, false, false, false, false, false, false, false, false, false, false, false, false, false, false, false, false, false, false, false, false, false, false, false, false, false, false, false, false, false, false, false, false, false, false, false, false, false, false, false, false, false, false, false, false, false, false] (by kernel_rfl) rfl rfl ⟨(blk_cell BK217.out 0).trans rfl, (blk_cell BK217.out 1).trans rfl, (blk_cell BK225.out 0).trans rfl, (blk_cell BK225.out 1).trans rfl, (blk_cell BK231.out 0).trans rfl, (blk_cell BK231.out 1).trans rfl⟩ (fun hHeld => ?_); refine with_tabW liverylaw01_head.tab9 liverylaw01_head.bits9 (fun HT_ HW_ => ?_)
                 generalize w103.drew = w104 at HO213 HO238 BK217 BK225 BK231 BK242 BK248 HB hHeld ⊢
                 refine XPrint.ta 0 65 (XPrint.L 79 1) HT_.out HW_.out (v := ?_) (a' := ?_) ?_ hHeld ?_ ?_
                 rotate_left
                 ·rintro w' ⟨s0, s1, s2, s3, s4, s5⟩
                  go_simp
                  with_reducible rfl
                 rotate_left
                 ·simp only [XPrint.pw, i64_w, i32_w]
                  rfl
                 refine one_ (i := 1) (N := some 66) (XPrint.L 79 3) rfl rfl (one_of HT_.out (by kernel_rfl)) (by decide) (fun K hK => ?_)
                 refine XPrint.gs Try.func31 #[.int .i64 4, .int .i64 (-3)] ?_
                 with_reducible refine (liverylaw01_of.calls 4 (-3) t267 t268 _ A23.out).mono ?_
                 rintro e w105 ⟨rfl, hb⟩
                 refine ⟨_, rfl, ?_⟩
                 replace HO213 := XPrint.A0 (XPrint.rb HO213.out hb)
                 replace HO238 := XPrint.A0 (XPrint.rb HO238.out hb)
                 replace BK217 := XPrint.A0 (XPrint.ab BK217.out hb)
                 replace BK225 := XPrint.A0 (XPrint.ab BK225.out hb)
                 replace BK231 := XPrint.A0 (XPrint.ab BK231.out hb)
                 replace BK242 := XPrint.A0 (XPrint.ab BK242.out hb)
                 replace BK248 := XPrint.A0 (XPrint.ab BK248.out hb)
                 replace HB := XPrint.A0 (below_step (by exact XPrint.bz HB.out) hb)
                 (try clear hb)
                 (try clear hb2)
                 (try clear hk)
                 (try clear hi)
                 refine hK.out _ _ ⟨(blk_cell BK217.out 0).trans rfl, (blk_cell BK217.out 1).trans rfl, (blk_cell BK225.out 0).trans rfl, (blk_cell BK225.out 1).trans rfl, (blk_cell BK231.out 0).trans rfl, (blk_cell BK231.out 1).trans rfl⟩ (fun hHeld => ?_)
                 clear hK K
                 refine norm_ (a' := ?_) ?_ ?_
                 rotate_left
                 ·show Act.put _ (some 66) _ = _
                  simp only [XPrint.pw, i64_w, i32_w]
                  rfl
                 refine XPrint.pu 2 67 (XPrint.L 79 7) HT_.out (v := ?_) (a' := ?_) ?_ ?_ ?_
                 rotate_left
                 ·intro w'
                  go_simp
                  with_reducible rfl
                 rotate_left
                 ·simp only [XPrint.pw, i64_w, i32_w]
                  rfl
                 refine XPrint.pu 3 68 (XPrint.L 79 15) HT_.out (v := ?_) (a' := ?_) ?_ ?_ ?_
                 rotate_left
                 ·intro w'
                  go_simp
                  with_reducible rfl
                 rotate_left
                 ·simp only [XPrint.pw, i64_w, i32_w]
                  rfl
                 refine XPrint.pu 4 69 (XPrint.L 79 31) HT_.out (v := ?_) (a' := ?_) ?_ ?_ ?_
                 rotate_left
                 ·intro w'
                  go_simp
                  with_reducible rfl
                 rotate_left
                 ·simp only [XPrint.pw, i64_w, i32_w]
                  rfl
                 refine XPrint.pu 5 70 (XPrint.L 79 63) HT_.out (v := ?_) (a' := ?_) ?_ ?_ ?_
                 rotate_left
                 ·intro w'
                  go_simp
                  with_reducible rfl
                 rotate_left
                 ·simp only [XPrint.pw, i64_w, i32_w]
                  rfl
                 refine XPrint.pu 6 71 (XPrint.L 79 127) HT_.out (v := ?_) (a' := ?_) ?_ ?_ ?_
                 rotate_left
                 ·intro w'
                  go_simp
                  with_reducible rfl
                 rotate_left
                 ·simp only [XPrint.pw, i64_w, i32_w]
                  rfl
                 refine XPrint.pu 7 72 (XPrint.L 79 255) HT_.out (v := ?_) (a' := ?_) ?_ ?_ ?_
                 rotate_left
                 ·intro w'
                  go_simp
                  with_reducible rfl
                 rotate_left
                 ·simp only [XPrint.pw, i64_w, i32_w]
                  rfl
                 refine XPrint.ta 8 73 (XPrint.L 79 511) HT_.out HW_.out (v := ?_) (a' := ?_) ?_ hHeld ?_ ?_
                 rotate_left
                 ·rintro w' ⟨s0, s1, s2, s3, s4, s5⟩
                  go_simp
                  with_reducible rfl
                 rotate_left
                 ·simp only [XPrint.pw, i64_w, i32_w]
                  rfl
                 refine one_ (i := 9) (N := some 74) (XPrint.L 79 1023) rfl rfl (one_of HT_.out (by kernel_rfl)) (by decide) (fun K hK => ?_)
                 refine XPrint.gs Try.func31 #[.int .i64 (-2), .int .i64 7] ?_
                 with_reducible refine (liverylaw01_of.calls (-2) 7 t269 t270 _ A26.out).mono ?_
                 rintro e w106 ⟨rfl, hb⟩
                 refine ⟨_, rfl, ?_⟩
                 replace HO213 := XPrint.A0 (XPrint.rb HO213.out hb)
                 replace HO238 := XPrint.A0 (XPrint.rb HO238.out hb)
                 replace BK217 := XPrint.A0 (XPrint.ab BK217.out hb)
                 replace BK225 := XPrint.A0 (XPrint.ab BK225.out hb)
                 replace BK231 := XPrint.A0 (XPrint.ab BK231.out hb)
                 replace BK242 := XPrint.A0 (XPrint.ab BK242.out hb)
                 replace BK248 := XPrint.A0 (XPrint.ab BK248.out hb)
                 replace HB := XPrint.A0 (below_step (by exact XPrint.bz HB.out) hb)
                 (try clear hb)
                 (try clear hb2)
                 (try clear hk)
                 (try clear hi)
                 refine hK.out _ _ ⟨(blk_cell BK217.out 0).trans rfl, (blk_cell BK217.out 1).trans rfl, (blk_cell BK225.out 0).trans rfl, (blk_cell BK225.out 1).trans rfl, (blk_cell BK231.out 0).trans rfl, (blk_cell BK231.out 1).trans rfl⟩ (fun hHeld => ?_)
                 clear hK K
                 refine norm_ (a' := ?_) ?_ ?_
                 rotate_left
                 ·show Act.put _ (some 74) _ = _
                  simp only [XPrint.pw, i64_w, i32_w]
                  rfl
                 refine XPrint.pu 10 75 (XPrint.L 79 2047) HT_.out (v := ?_) (a' := ?_) ?_ ?_ ?_
                 rotate_left
                 ·intro w'
                  go_simp
                  with_reducible rfl
                 rotate_left
                 ·simp only [XPrint.pw, i64_w, i32_w]
                  rfl
                 refine XPrint.pu 11 76 (XPrint.L 79 4095) HT_.out (v := ?_) (a' := ?_) ?_ ?_ ?_
                 rotate_left
                 ·intro w'
                  go_simp
                  with_reducible rfl
                 rotate_left
                 ·simp only [XPrint.pw, i64_w, i32_w]
                  rfl
                 refine XPrint.pu 12 77 (XPrint.L 79 8191) HT_.out (v := ?_) (a' := ?_) ?_ ?_ ?_
                 rotate_left
                 ·intro w'
                  go_simp
                  with_reducible rfl
                 rotate_left
                 ·simp only [XPrint.pw, i64_w, i32_w]
                  rfl
                 refine XPrint.pu 13 78 (XPrint.L 79 16383) HT_.out (v := ?_) (a' := ?_) ?_ ?_ ?_
                 rotate_left
                 ·intro w'
                  go_simp
                  with_reducible rfl
                 rotate_left
                 ·simp only [XPrint.pw, i64_w, i32_w]
                  rfl
                 refine XPrint.pu 14 79 (XPrint.L 79 32767) HT_.out (v := ?_) (a' := ?_) ?_ ?_ ?_
                 rotate_left
                 ·intro w'
                  go_simp
                  with_reducible rfl
                 rotate_left
                 ·simp only [XPrint.pw, i64_w, i32_w]
                  rfl
                 refine XPrint.pu 15 80 (XPrint.L 79 65535) HT_.out (v := ?_) (a' := ?_) ?_ ?_ ?_
                 rotate_left
                 ·intro w'
                  go_simp
                  with_reducible rfl
                 rotate_left
                 ·simp only [XPrint.pw, i64_w, i32_w]
                  rfl
                 refine XPrint.pu 16 81 (XPrint.L 79 131071) HT_.out (v := ?_) (a' := ?_) ?_ ?_ ?_
                 rotate_left
                 ·intro w'
                  go_simp
                  with_reducible rfl
                 rotate_left
                 ·simp only [XPrint.pw, i64_w, i32_w]
                  rfl
                 refine XPrint.ta 17 82 (XPrint.L 79 262143) HT_.out HW_.out (v := ?_) (a' := ?_) ?_ hHeld ?_ ?_
                 rotate_left
                 ·rintro w' ⟨s0, s1, s2, s3, s4, s5⟩
                  go_simp
                  with_reducible rfl
                 rotate_left
                 ·simp only [XPrint.pw, i64_w, i32_w]
                  rfl
                 refine one_ (i := 18) (N := some 83) (XPrint.L 79 524287) rfl rfl (one_of HT_.out (by kernel_rfl)) (by decide) (fun K hK => ?_)
                 refine XPrint.gs Try.func31 #[.int .i64 8, .int .i64 (-12)] ?_
                 with_reducible refine (liverylaw01_of.calls 8 (-12) t271 t272 _ A29.out).mono ?_
                 rintro e w107 ⟨rfl, hb⟩
                 refine ⟨_, rfl, ?_⟩
                 replace HO213 := XPrint.A0 (XPrint.rb HO213.out hb)
                 replace HO238 := XPrint.A0 (XPrint.rb HO238.out hb)
                 replace BK217 := XPrint.A0 (XPrint.ab BK217.out hb)
                 replace BK225 := XPrint.A0 (XPrint.ab BK225.out hb)
                 replace BK231 := XPrint.A0 (XPrint.ab BK231.out hb)
                 replace BK242 := XPrint.A0 (XPrint.ab BK242.out hb)
                 replace BK248 := XPrint.A0 (XPrint.ab BK248.out hb)
                 replace HB := XPrint.A0 (below_step (by exact XPrint.bz HB.out) hb)
                 (try clear hb)
                 (try clear hb2)
                 (try clear hk)
                 (try clear hi)
                 refine hK.out _ _ ⟨(blk_cell BK217.out 0).trans rfl, (blk_cell BK217.out 1).trans rfl, (blk_cell BK225.out 0).trans rfl, (blk_cell BK225.out 1).trans rfl, (blk_cell BK231.out 0).trans rfl, (blk_cell BK231.out 1).trans rfl⟩ (fun hHeld => ?_)
                 clear hK K
                 refine norm_ (a' := ?_) ?_ ?_
                 rotate_left
                 ·show Act.put _ (some 83) _ = _
                  simp only [XPrint.pw, i64_w, i32_w]
                  rfl
                 refine XPrint.pu 19 84 (XPrint.L 79 1048575) HT_.out (v := ?_) (a' := ?_) ?_ ?_ ?_
                 rotate_left
                 ·intro w'
                  go_simp
                  with_reducible rfl
                 rotate_left
                 ·simp only [XPrint.pw, i64_w, i32_w]
                  rfl
                 refine XPrint.pu 20 85 (XPrint.L 79 2097151) HT_.out (v := ?_) (a' := ?_) ?_ ?_ ?_
                 rotate_left
                 ·intro w'
                  go_simp
                  with_reducible rfl
                 rotate_left
                 ·simp only [XPrint.pw, i64_w, i32_w]
                  rfl
                 refine XPrint.pu 21 86 (XPrint.L 79 4194303) HT_.out (v := ?_) (a' := ?_) ?_ ?_ ?_
                 rotate_left
                 ·intro w'
                  go_simp
                  with_reducible rfl
                 rotate_left
                 ·simp only [XPrint.pw, i64_w, i32_w]
                  rfl
                 refine XPrint.pu 22 87 (XPrint.L 79 8388607) HT_.out (v := ?_) (a' := ?_) ?_ ?_ ?_
                 rotate_left
                 ·intro w'
                  go_simp
                  with_reducible rfl
                 rotate_left
                 ·simp only [XPrint.pw, i64_w, i32_w]
                  rfl
                 refine XPrint.pu 23 88 (XPrint.L 79 16777215) HT_.out (v := ?_) (a' := ?_) ?_ ?_ ?_
                 rotate_left
                 ·intro w'
                  go_simp
                  with_reducible rfl
                 rotate_left
                 ·simp only [XPrint.pw, i64_w, i32_w]
                  rfl
                 refine XPrint.pu 24 89 (XPrint.L 79 33554431) HT_.out (v := ?_) (a' := ?_) ?_ ?_ ?_
                 rotate_left
                 ·intro w'
                  go_simp
                  with_reducible rfl
                 rotate_left
                 ·simp only [XPrint.pw, i64_w, i32_w]
                  rfl
                 refine XPrint.pu 25 90 (XPrint.L 79 67108863) HT_.out (v := ?_) (a' := ?_) ?_ ?_ ?_
                 rotate_left
                 ·intro w'
                  go_simp
                  with_reducible rfl
                 rotate_left
                 ·simp only [XPrint.pw, i64_w, i32_w]
                  rfl
                 refine XPrint.pu 26 91 (XPrint.L 79 134217727) HT_.out (v := ?_) (a' := ?_) ?_ ?_ ?_
                 rotate_left
                 ·intro w'
                  go_simp
                  with_reducible rfl
                 rotate_left
                 ·simp only [XPrint.pw, i64_w, i32_w]
                  rfl
                 refine XPrint.pu 27 92 (XPrint.L 79 268435455) HT_.out (v := ?_) (a' := ?_) ?_ ?_ ?_
                 rotate_left
                 ·intro w'
                  go_simp
                  with_reducible rfl
                 rotate_left
                 ·simp only [XPrint.pw, i64_w, i32_w]
                  rfl
                 refine XPrint.pu 28 93 (XPrint.L 79 536870911) HT_.out (v := ?_) (a' := ?_) ?_ ?_ ?_
                 rotate_left
                 ·intro w'
                  go_simp
                  with_reducible rfl
                 rotate_left
                 ·simp only [XPrint.pw, i64_w, i32_w]
                  rfl
                 refine XPrint.pu 29 94 (XPrint.L 79 1073741823) HT_.out (v := ?_) (a' := ?_) ?_ ?_ ?_
                 rotate_left
                 ·intro w'
                  go_simp
                  with_reducible rfl
                 rotate_left
                 ·simp only [XPrint.pw, i64_w, i32_w]
                  rfl
                 refine XPrint.pu 30 95 (XPrint.L 79 2147483647) HT_.out (v := ?_) (a' := ?_) ?_ ?_ ?_
                 rotate_left
                 ·intro w'
                  go_simp
                  with_reducible rfl
                 rotate_left
                 ·simp only [XPrint.pw, i64_w, i32_w]
                  rfl
                 refine XPrint.pu 31 96 (XPrint.L 79 4294967295) HT_.out (v := ?_) (a' := ?_) ?_ ?_ ?_
                 rotate_left
                 ·intro w'
                  go_simp
                  with_reducible rfl
                 rotate_left
                 ·simp only [XPrint.pw, i64_w, i32_w]
                  rfl
                 refine XPrint.pu 32 97 (XPrint.L 79 8589934591) HT_.out (v := ?_) (a' := ?_) ?_ ?_ ?_
                 rotate_left
                 ·intro w'
                  go_simp
                  with_reducible rfl
                 rotate_left
                 ·simp only [XPrint.pw, i64_w, i32_w]
                  rfl
                 refine XPrint.pu 33 98 (XPrint.L 79 17179869183) HT_.out (v := ?_) (a' := ?_) ?_ ?_ ?_
                 rotate_left
                 ·intro w'
                  go_simp
                  with_reducible rfl
                 rotate_left
                 ·simp only [XPrint.pw, i64_w, i32_w]
                  rfl
                 refine one_ (i := 34) (N := some 99) (XPrint.L 79 34359738367) rfl rfl (one_of HT_.out (by kernel_rfl)) (by decide) (fun K hK => ?_)
                 refine XPrint.gs Try.func31 #[.int .i64 1, .int .i64 5] ?_
                 with_reducible refine (liverylaw01_of.calls 1 5 t273 t274 _ A34.out).mono ?_
                 rintro e w108 ⟨rfl, hb⟩
                 refine ⟨_, rfl, ?_⟩
                 replace HO213 := XPrint.A0 (XPrint.rb HO213.out hb)
                 replace HO238 := XPrint.A0 (XPrint.rb HO238.out hb)
                 replace BK217 := XPrint.A0 (XPrint.ab BK217.out hb)
                 replace BK225 := XPrint.A0 (XPrint.ab BK225.out hb)
                 replace BK231 := XPrint.A0 (XPrint.ab BK231.out hb)
                 replace BK242 := XPrint.A0 (XPrint.ab BK242.out hb)
                 replace BK248 := XPrint.A0 (XPrint.ab BK248.out hb)
                 replace HB := XPrint.A0 (below_step (by exact XPrint.bz HB.out) hb)
                 (try clear hb)
                 (try clear hb2)
                 (try clear hk)
                 (try clear hi)
                 refine hK.out _ _ ⟨(blk_cell BK217.out 0).trans rfl, (blk_cell BK217.out 1).trans rfl, (blk_cell BK225.out 0).trans rfl, (blk_cell BK225.out 1).trans rfl, (blk_cell BK231.out 0).trans rfl, (blk_cell BK231.out 1).trans rfl⟩ (fun hHeld => ?_)
                 clear hK K
                 refine norm_ (a' := ?_) ?_ ?_
                 rotate_left
                 ·show Act.put _ (some 99) _ = _
                  simp only [XPrint.pw, i64_w, i32_w]
                  rfl
                 refine one_ (i := 35) (N := some 100) (XPrint.L 79 68719476735) rfl rfl (one_of HT_.out (by kernel_rfl)) (by decide) (fun K hK => ?_)
                 refine XPrint.gs Try.func31 #[.int .i64 3, .int .i64 2] ?_
                 with_reducible refine (liverylaw01_of.calls 3 2 t275 t276 _ A35.out).mono ?_
                 rintro e w109 ⟨rfl, hb⟩
                 refine ⟨_, rfl, ?_⟩
                 replace HO213 := XPrint.A0 (XPrint.rb HO213.out hb)
                 replace HO238 := XPrint.A0 (XPrint.rb HO238.out hb)
                 replace BK217 := XPrint.A0 (XPrint.ab BK217.out hb)
                 replace BK225 := XPrint.A0 (XPrint.ab BK225.out hb)
                 replace BK231 := XPrint.A0 (XPrint.ab BK231.out hb)
                 replace BK242 := XPrint.A0 (XPrint.ab BK242.out hb)
                 replace BK248 := XPrint.A0 (XPrint.ab BK248.out hb)
                 replace HB := XPrint.A0 (below_step (by exact XPrint.bz HB.out) hb)
                 (try clear hb)
                 (try clear hb2)
                 (try clear hk)
                 (try clear hi)
                 refine hK.out _ _ ⟨(blk_cell BK217.out 0).trans rfl, (blk_cell BK217.out 1).trans rfl, (blk_cell BK225.out 0).trans rfl, (blk_cell BK225.out 1).trans rfl, (blk_cell BK231.out 0).trans rfl, (blk_cell BK231.out 1).trans rfl⟩ (fun hHeld => ?_)
                 clear hK K
                 refine norm_ (a' := ?_) ?_ ?_
                 rotate_left
                 ·show Act.put _ (some 100) _ = _
                  simp only [XPrint.pw, i64_w, i32_w]
                  rfl
                 refine one_ (i := 36) (N := some 101) (XPrint.L 79 137438953471) rfl rfl (one_of HT_.out (by kernel_rfl)) (by decide) (fun K hK => ?_)
                 refine XPrint.gs Try.func22 #[.agg #[.int .i64 t273, .int .i64 t274], .agg #[.int .i64 t275, .int .i64 t276]] ?_
                 with_reducible refine (vec_Min.calls t273 t274 t275 t276 t277 t278 _ A36.out).mono ?_
                 rintro e w110 ⟨rfl, hb⟩
                 refine ⟨_, rfl, ?_⟩
                 replace HO213 := XPrint.A0 (XPrint.rb HO213.out hb)
                 replace HO238 := XPrint.A0 (XPrint.rb HO238.out hb)
                 replace BK217 := XPrint.A0 (XPrint.ab BK217.out hb)
                 replace BK225 := XPrint.A0 (XPrint.ab BK225.out hb)
                 replace BK231 := XPrint.A0 (XPrint.ab BK231.out hb)
                 replace BK242 := XPrint.A0 (XPrint.ab BK242.out hb)
                 replace BK248 := XPrint.A0 (XPrint.ab BK248.out hb)
                 replace HB := XPrint.A0 (below_step (by exact XPrint.bz HB.out) hb)
                 (try clear hb)
                 (try clear hb2)
                 (try clear hk)
                 (try clear hi)
                 refine hK.out _ _ ⟨(blk_cell BK217.out 0).trans rfl, (blk_cell BK217.out 1).trans rfl, (blk_cell BK225.out 0).trans rfl, (blk_cell BK225.out 1).trans rfl, (blk_cell BK231.out 0).trans rfl, (blk_cell BK231.out 1).trans rfl⟩ (fun hHeld => ?_)
                 clear hK K
                 refine norm_ (a' := ?_) ?_ ?_
                 rotate_left
                 ·show Act.put _ (some 101) _ = _
                  simp only [XPrint.pw, i64_w, i32_w]
                  rfl
                 refine one_ (i := 37) (N := some 102) (XPrint.L 79 274877906943) rfl rfl (one_of HT_.out (by kernel_rfl)) (by decide) (fun K hK => ?_)
                 refine XPrint.gs Try.func31 #[.int .i64 1, .int .i64 2] ?_
                 with_reducible refine (liverylaw01_of.calls 1 2 t279 t280 _ A37.out).mono ?_
                 rintro e w111 ⟨rfl, hb⟩
                 refine ⟨_, rfl, ?_⟩
                 replace HO213 := XPrint.A0 (XPrint.rb HO213.out hb)
                 replace HO238 := XPrint.A0 (XPrint.rb HO238.out hb)
                 replace BK217 := XPrint.A0 (XPrint.ab BK217.out hb)
                 replace BK225 := XPrint.A0 (XPrint.ab BK225.out hb)
                 replace BK231 := XPrint.A0 (XPrint.ab BK231.out hb)
                 replace BK242 := XPrint.A0 (XPrint.ab BK242.out hb)
                 replace BK248 := XPrint.A0 (XPrint.ab BK248.out hb)
                 replace HB := XPrint.A0 (below_step (by exact XPrint.bz HB.out) hb)
                 (try clear hb)
                 (try clear hb2)
                 (try clear hk)
                 (try clear hi)
                 refine hK.out _ _ ⟨(blk_cell BK217.out 0).trans rfl, (blk_cell BK217.out 1).trans rfl, (blk_cell BK225.out 0).trans rfl, (blk_cell BK225.out 1).trans rfl, (blk_cell BK231.out 0).trans rfl, (blk_cell BK231.out 1).trans rfl⟩ (fun hHeld => ?_)
                 clear hK K
                 refine norm_ (a' := ?_) ?_ ?_
                 rotate_left
                 ·show Act.put _ (some 102) _ = _
                  simp only [XPrint.pw, i64_w, i32_w]
                  rfl
                 refine XPrint.pu 38 103 (XPrint.L 79 549755813887) HT_.out (v := ?_) (a' := ?_) ?_ ?_ ?_
                 rotate_left
                 ·intro w'
                  go_simp
                  with_reducible rfl
                 rotate_left
                 ·simp only [XPrint.pw, i64_w, i32_w]
                  rfl
                 refine XPrint.pu 39 104 (XPrint.L 79 1099511627775) HT_.out (v := ?_) (a' := ?_) ?_ ?_ ?_
                 rotate_left
                 ·intro w'
                  go_simp
                  with_reducible rfl
                 rotate_left
                 ·simp only [XPrint.pw, i64_w, i32_w]
                  rfl
                 refine XPrint.pu 40 105 (XPrint.L 79 2199023255551) HT_.out (v := ?_) (a' := ?_) ?_ ?_ ?_
                 rotate_left
                 ·intro w'
                  go_simp
                  with_reducible rfl
                 rotate_left
                 ·simp only [XPrint.pw, i64_w, i32_w]
                  rfl
                 refine one_ (i := 41) (N := some 106) (XPrint.L 79 4398046511103) rfl rfl (one_of HT_.out (by kernel_rfl)) (by decide) (fun K hK => ?_)
                 refine XPrint.gs Try.func31 #[.int .i64 1, .int .i64 5] ?_
                 with_reducible refine (liverylaw01_of.calls 1 5 t281 t282 _ A39.out).mono ?_
                 rintro e w112 ⟨rfl, hb⟩
                 refine ⟨_, rfl, ?_⟩
                 replace HO213 := XPrint.A0 (XPrint.rb HO213.out hb)
                 replace HO238 := XPrint.A0 (XPrint.rb HO238.out hb)
                 replace BK217 := XPrint.A0 (XPrint.ab BK217.out hb)
                 replace BK225 := XPrint.A0 (XPrint.ab BK225.out hb)
                 replace BK231 := XPrint.A0 (XPrint.ab BK231.out hb)
                 replace BK242 := XPrint.A0 (XPrint.ab BK242.out hb)
                 replace BK248 := XPrint.A0 (XPrint.ab BK248.out hb)
                 replace HB := XPrint.A0 (below_step (by exact XPrint.bz HB.out) hb)
                 (try clear hb)
                 (try clear hb2)
                 (try clear hk)
                 (try clear hi)
                 refine hK.out _ _ ⟨(blk_cell BK217.out 0).trans rfl, (blk_cell BK217.out 1).trans rfl, (blk_cell BK225.out 0).trans rfl, (blk_cell BK225.out 1).trans rfl, (blk_cell BK231.out 0).trans rfl, (blk_cell BK231.out 1).trans rfl⟩ (fun hHeld => ?_)
                 clear hK K
                 refine norm_ (a' := ?_) ?_ ?_
                 rotate_left
                 ·show Act.put _ (some 106) _ = _
                  simp only [XPrint.pw, i64_w, i32_w]
                  rfl
                 refine one_ (i := 42) (N := some 107) (XPrint.L 79 8796093022207) rfl rfl (one_of HT_.out (by kernel_rfl)) (by decide) (fun K hK => ?_)
                 refine XPrint.gs Try.func31 #[.int .i64 3, .int .i64 2] ?_
                 with_reducible refine (liverylaw01_of.calls 3 2 t283 t284 _ A40.out).mono ?_
                 rintro e w113 ⟨rfl, hb⟩
                 refine ⟨_, rfl, ?_⟩
                 replace HO213 := XPrint.A0 (XPrint.rb HO213.out hb)
                 replace HO238 := XPrint.A0 (XPrint.rb HO238.out hb)
                 replace BK217 := XPrint.A0 (XPrint.ab BK217.out hb)
                 replace BK225 := XPrint.A0 (XPrint.ab BK225.out hb)
                 replace BK231 := XPrint.A0 (XPrint.ab BK231.out hb)
                 replace BK242 := XPrint.A0 (XPrint.ab BK242.out hb)
                 replace BK248 := XPrint.A0 (XPrint.ab BK248.out hb)
                 replace HB := XPrint.A0 (below_step (by exact XPrint.bz HB.out) hb)
                 (try clear hb)
                 (try clear hb2)
                 (try clear hk)
                 (try clear hi)
                 refine hK.out _ _ ⟨(blk_cell BK217.out 0).trans rfl, (blk_cell BK217.out 1).trans rfl, (blk_cell BK225.out 0).trans rfl, (blk_cell BK225.out 1).trans rfl, (blk_cell BK231.out 0).trans rfl, (blk_cell BK231.out 1).trans rfl⟩ (fun hHeld => ?_)
                 clear hK K
                 refine norm_ (a' := ?_) ?_ ?_
                 rotate_left
                 ·show Act.put _ (some 107) _ = _
                  simp only [XPrint.pw, i64_w, i32_w]
                  rfl
                 refine one_ (i := 43) (N := some 108) (XPrint.L 79 17592186044415) rfl rfl (one_of HT_.out (by kernel_rfl)) (by decide) (fun K hK => ?_)
                 refine XPrint.gs Try.func24 #[.agg #[.int .i64 t281, .int .i64 t282], .agg #[.int .i64 t283, .int .i64 t284]] ?_
                 with_reducible refine (vec_Max.calls t281 t282 t283 t284 t285 t286 _ A41.out).mono ?_
                 rintro e w114 ⟨rfl, hb⟩
                 refine ⟨_, rfl, ?_⟩
                 replace HO213 := XPrint.A0 (XPrint.rb HO213.out hb)
                 replace HO238 := XPrint.A0 (XPrint.rb HO238.out hb)
                 replace BK217 := XPrint.A0 (XPrint.ab BK217.out hb)
                 replace BK225 := XPrint.A0 (XPrint.ab BK225.out hb)
                 replace BK231 := XPrint.A0 (XPrint.ab BK231.out hb)
                 replace BK242 := XPrint.A0 (XPrint.ab BK242.out hb)
                 replace BK248 := XPrint.A0 (XPrint.ab BK248.out hb)
                 replace HB := XPrint.A0 (below_step (by exact XPrint.bz HB.out) hb)
                 (try clear hb)
                 (try clear hb2)
                 (try clear hk)
                 (try clear hi)
                 refine hK.out _ _ ⟨(blk_cell BK217.out 0).trans rfl, (blk_cell BK217.out 1).trans rfl, (blk_cell BK225.out 0).trans rfl, (blk_cell BK225.out 1).trans rfl, (blk_cell BK231.out 0).trans rfl, (blk_cell BK231.out 1).trans rfl⟩ (fun hHeld => ?_)
                 clear hK K
                 refine norm_ (a' := ?_) ?_ ?_
                 rotate_left
                 ·show Act.put _ (some 108) _ = _
                  simp only [XPrint.pw, i64_w, i32_w]
                  rfl
                 refine one_ (i := 44) (N := some 109) (XPrint.L 79 35184372088831) rfl rfl (one_of HT_.out (by kernel_rfl)) (by decide) (fun K hK => ?_)
                 refine XPrint.gs Try.func31 #[.int .i64 3, .int .i64 5] ?_
                 with_reducible refine (liverylaw01_of.calls 3 5 t287 t288 _ A42.out).mono ?_
                 rintro e w115 ⟨rfl, hb⟩
                 refine ⟨_, rfl, ?_⟩
                 replace HO213 := XPrint.A0 (XPrint.rb HO213.out hb)
                 replace HO238 := XPrint.A0 (XPrint.rb HO238.out hb)
                 replace BK217 := XPrint.A0 (XPrint.ab BK217.out hb)
                 replace BK225 := XPrint.A0 (XPrint.ab BK225.out hb)
                 replace BK231 := XPrint.A0 (XPrint.ab BK231.out hb)
                 replace BK242 := XPrint.A0 (XPrint.ab BK242.out hb)
                 replace BK248 := XPrint.A0 (XPrint.ab BK248.out hb)
                 replace HB := XPrint.A0 (below_step (by exact XPrint.bz HB.out) hb)
                 (try clear hb)
                 (try clear hb2)
                 (try clear hk)
                 (try clear hi)
                 refine hK.out _ _ ⟨(blk_cell BK217.out 0).trans rfl, (blk_cell BK217.out 1).trans rfl, (blk_cell BK225.out 0).trans rfl, (blk_cell BK225.out 1).trans rfl, (blk_cell BK231.out 0).trans rfl, (blk_cell BK231.out 1).trans rfl⟩ (fun hHeld => ?_)
                 clear hK K
                 refine norm_ (a' := ?_) ?_ ?_
                 rotate_left
                 ·show Act.put _ (some 109) _ = _
                  simp only [XPrint.pw, i64_w, i32_w]
                  rfl
                 refine XPrint.pu 45 110 (XPrint.L 79 70368744177663) HT_.out (v := ?_) (a' := ?_) ?_ ?_ ?_
                 rotate_left
                 ·intro w'
                  go_simp
                  with_reducible rfl
                 rotate_left
                 ·simp only [XPrint.pw, i64_w, i32_w]
                  rfl
                 refine XPrint.pu 46 111 (XPrint.L 79 140737488355327) HT_.out (v := ?_) (a' := ?_) ?_ ?_ ?_
                 rotate_left
                 ·intro w'
                  go_simp
                  with_reducible rfl
                 rotate_left
                 ·simp only [XPrint.pw, i64_w, i32_w]
                  rfl
                 refine XPrint.pu 47 112 (XPrint.L 79 281474976710655) HT_.out (v := ?_) (a' := ?_) ?_ ?_ ?_
                 rotate_left
                 ·intro w'
                  go_simp
                  with_reducible rfl
                 rotate_left
                 ·simp only [XPrint.pw, i64_w, i32_w]
                  rfl
                 refine one_ (i := 48) (N := some 113) (XPrint.L 79 562949953421311) rfl rfl (one_of HT_.out (by kernel_rfl)) (by decide) (fun K hK => ?_)
                 refine XPrint.gs Try.func31 #[.int .i64 1, .int .i64 2] ?_
                 with_reducible refine (liverylaw01_of.calls 1 2 t289 t290 _ A44.out).mono ?_
                 rintro e w116 ⟨rfl, hb⟩
                 refine ⟨_, rfl, ?_⟩
                 replace HO213 := XPrint.A0 (XPrint.rb HO213.out hb)
                 replace HO238 := XPrint.A0 (XPrint.rb HO238.out hb)
                 replace BK217 := XPrint.A0 (XPrint.ab BK217.out hb)
                 replace BK225 := XPrint.A0 (XPrint.ab BK225.out hb)
                 replace BK231 := XPrint.A0 (XPrint.ab BK231.out hb)
                 replace BK242 := XPrint.A0 (XPrint.ab BK242.out hb)
                 replace BK248 := XPrint.A0 (XPrint.ab BK248.out hb)
                 replace HB := XPrint.A0 (below_step (by exact XPrint.bz HB.out) hb)
                 (try clear hb)
                 (try clear hb2)
                 (try clear hk)
                 (try clear hi)
                 refine hK.out _ _ ⟨(blk_cell BK217.out 0).trans rfl, (blk_cell BK217.out 1).trans rfl, (blk_cell BK225.out 0).trans rfl, (blk_cell BK225.out 1).trans rfl, (blk_cell BK231.out 0).trans rfl, (blk_cell BK231.out 1).trans rfl⟩ (fun hHeld => ?_)
                 clear hK K
                 refine norm_ (a' := ?_) ?_ ?_
                 rotate_left
                 ·show Act.put _ (some 113) _ = _
                  simp only [XPrint.pw, i64_w, i32_w]
                  rfl
                 refine one_ (i := 49) (N := some 114) (XPrint.L 79 1125899906842623) rfl rfl (one_of HT_.out (by kernel_rfl)) (by decide) (fun K hK => ?_)
                 refine XPrint.gs Try.func31 #[.int .i64 1, .int .i64 3] ?_
                 with_reducible refine (liverylaw01_of.calls 1 3 t291 t292 _ A45.out).mono ?_
                 rintro e w117 ⟨rfl, hb⟩
                 refine ⟨_, rfl, ?_⟩
                 replace HO213 := XPrint.A0 (XPrint.rb HO213.out hb)
                 replace HO238 := XPrint.A0 (XPrint.rb HO238.out hb)
                 replace BK217 := XPrint.A0 (XPrint.ab BK217.out hb)
                 replace BK225 := XPrint.A0 (XPrint.ab BK225.out hb)
                 replace BK231 := XPrint.A0 (XPrint.ab BK231.out hb)
                 replace BK242 := XPrint.A0 (XPrint.ab BK242.out hb)
                 replace BK248 := XPrint.A0 (XPrint.ab BK248.out hb)
                 replace HB := XPrint.A0 (below_step (by exact XPrint.bz HB.out) hb)
                 (try clear hb)
                 (try clear hb2)
                 (try clear hk)
                 (try clear hi)
                 refine hK.out _ _ ⟨(blk_cell BK217.out 0).trans rfl, (blk_cell BK217.out 1).trans rfl, (blk_cell BK225.out 0).trans rfl, (blk_cell BK225.out 1).trans rfl, (blk_cell BK231.out 0).trans rfl, (blk_cell BK231.out 1).trans rfl⟩ (fun hHeld => ?_)
                 clear hK K
                 refine norm_ (a' := ?_) ?_ ?_
                 rotate_left
                 ·show Act.put _ (some 114) _ = _
                  simp only [XPrint.pw, i64_w, i32_w]
                  rfl
                 refine one_ (i := 50) (N := some 115) (XPrint.L 79 2251799813685247) rfl rfl (one_of HT_.out (by kernel_rfl)) (by decide) (fun K hK => ?_)
                 refine XPrint.gs Try.func26 #[.agg #[.int .i64 t289, .int .i64 t290], .agg #[.int .i64 t291, .int .i64 t292]] ?_
                 with_reducible refine (vec_LE.calls t289 t290 t291 t292 true _ A46.out).mono ?_
                 rintro e w118 ⟨rfl, hb⟩
                 refine ⟨_, rfl, ?_⟩
                 replace HO213 := XPrint.A0 (XPrint.rb HO213.out hb)
                 replace HO238 := XPrint.A0 (XPrint.rb HO238.out hb)
                 replace BK217 := XPrint.A0 (XPrint.ab BK217.out hb)
                 replace BK225 := XPrint.A0 (XPrint.ab BK225.out hb)
                 replace BK231 := XPrint.A0 (XPrint.ab BK231.out hb)
                 replace BK242 := XPrint.A0 (XPrint.ab BK242.out hb)
                 replace BK248 := XPrint.A0 (XPrint.ab BK248.out hb)
                 replace HB := XPrint.A0 (below_step (by exact XPrint.bz HB.out) hb)
                 (try clear hb)
                 (try clear hb2)
                 (try clear hk)
                 (try clear hi)
                 refine hK.out _ _ ⟨(blk_cell BK217.out 0).trans rfl, (blk_cell BK217.out 1).trans rfl, (blk_cell BK225.out 0).trans rfl, (blk_cell BK225.out 1).trans rfl, (blk_cell BK231.out 0).trans rfl, (blk_cell BK231.out 1).trans rfl⟩ (fun hHeld => ?_)
                 clear hK K
                 refine norm_ (a' := ?_) ?_ ?_
                 rotate_left
                 ·show Act.put _ (some 115) _ = _
                  simp only [XPrint.pw, i64_w, i32_w]
                  rfl
                 refine XPrint.pu 51 116 (XPrint.L 79 4503599627370495) HT_.out (v := ?_) (a' := ?_) ?_ ?_ ?_
                 rotate_left
                 ·intro w'
                  go_simp
                  with_reducible rfl
                 rotate_left
                 ·simp only [XPrint.pw, i64_w, i32_w]
                  rfl
                 refine XPrint.pu 52 117 (XPrint.L 79 9007199254740991) HT_.out (v := ?_) (a' := ?_) ?_ ?_ ?_
                 rotate_left
                 ·intro w'
                  go_simp
                  with_reducible rfl
                 rotate_left
                 ·simp only [XPrint.pw, i64_w, i32_w]
                  rfl
                 refine one_ (i := 53) (N := some 118) (XPrint.L 79 18014398509481983) rfl rfl (one_of HT_.out (by kernel_rfl)) (by decide) (fun K hK => ?_)
                 refine XPrint.gs Try.func31 #[.int .i64 1, .int .i64 4] ?_
                 with_reducible refine (liverylaw01_of.calls 1 4 t294 t295 _ A48.out).mono ?_
                 rintro e w119 ⟨rfl, hb⟩
                 refine ⟨_, rfl, ?_⟩
                 replace HO213 := XPrint.A0 (XPrint.rb HO213.out hb)
                 replace HO238 := XPrint.A0 (XPrint.rb HO238.out hb)
                 replace BK217 := XPrint.A0 (XPrint.ab BK217.out hb)
                 replace BK225 := XPrint.A0 (XPrint.ab BK225.out hb)
                 replace BK231 := XPrint.A0 (XPrint.ab BK231.out hb)
                 replace BK242 := XPrint.A0 (XPrint.ab BK242.out hb)
                 replace BK248 := XPrint.A0 (XPrint.ab BK248.out hb)
                 replace HB := XPrint.A0 (below_step (by exact XPrint.bz HB.out) hb)
                 (try clear hb)
                 (try clear hb2)
                 (try clear hk)
                 (try clear hi)
                 refine hK.out _ _ ⟨(blk_cell BK217.out 0).trans rfl, (blk_cell BK217.out 1).trans rfl, (blk_cell BK225.out 0).trans rfl, (blk_cell BK225.out 1).trans rfl, (blk_cell BK231.out 0).trans rfl, (blk_cell BK231.out 1).trans rfl⟩ (fun hHeld => ?_)
                 clear hK K
                 refine norm_ (a' := ?_) ?_ ?_
                 rotate_left
                 ·show Act.put _ (some 118) _ = _
                  simp only [XPrint.pw, i64_w, i32_w]
                  rfl
                 refine one_ (i := 54) (N := some 119) (XPrint.L 79 36028797018963967) rfl rfl (one_of HT_.out (by kernel_rfl)) (by decide) (fun K hK => ?_)
                 refine XPrint.gs Try.func31 #[.int .i64 2, .int .i64 3] ?_
                 with_reducible refine (liverylaw01_of.calls 2 3 t296 t297 _ A49.out).mono ?_
                 rintro e w120 ⟨rfl, hb⟩
                 refine ⟨_, rfl, ?_⟩
                 replace HO213 := XPrint.A0 (XPrint.rb HO213.out hb)
                 replace HO238 := XPrint.A0 (XPrint.rb HO238.out hb)
                 replace BK217 := XPrint.A0 (XPrint.ab BK217.out hb)
                 replace BK225 := XPrint.A0 (XPrint.ab BK225.out hb)
                 replace BK231 := XPrint.A0 (XPrint.ab BK231.out hb)
                 replace BK242 := XPrint.A0 (XPrint.ab BK242.out hb)
                 replace BK248 := XPrint.A0 (XPrint.ab BK248.out hb)
                 replace HB := XPrint.A0 (below_step (by exact XPrint.bz HB.out) hb)
                 (try clear hb)
                 (try clear hb2)
                 (try clear hk)
                 (try clear hi)
                 refine hK.out _ _ ⟨(blk_cell BK217.out 0).trans rfl, (blk_cell BK217.out 1).trans rfl, (blk_cell BK225.out 0).trans rfl, (blk_cell BK225.out 1).trans rfl, (blk_cell BK231.out 0).trans rfl, (blk_cell BK231.out 1).trans rfl⟩ (fun hHeld => ?_)
                 clear hK K
                 refine norm_ (a' := ?_) ?_ ?_
                 rotate_left
                 ·show Act.put _ (some 119) _ = _
                  simp only [XPrint.pw, i64_w, i32_w]
                  rfl
                 refine one_ (i := 55) (N := some 120) (XPrint.L 79 72057594037927935) rfl rfl (one_of HT_.out (by kernel_rfl)) (by decide) (fun K hK => ?_)
                 refine XPrint.gs Try.func26 #[.agg #[.int .i64 t294, .int .i64 t295], .agg #[.int .i64 t296, .int .i64 t297]] ?_
                 with_reducible refine (vec_LE.calls t294 t295 t296 t297 false _ A50.out).mono ?_
                 rintro e w121 ⟨rfl, hb⟩
                 refine ⟨_, rfl, ?_⟩
                 replace HO213 := XPrint.A0 (XPrint.rb HO213.out hb)
                 replace HO238 := XPrint.A0 (XPrint.rb HO238.out hb)
                 replace BK217 := XPrint.A0 (XPrint.ab BK217.out hb)
                 replace BK225 := XPrint.A0 (XPrint.ab BK225.out hb)
                 replace BK231 := XPrint.A0 (XPrint.ab BK231.out hb)
                 replace BK242 := XPrint.A0 (XPrint.ab BK242.out hb)
                 replace BK248 := XPrint.A0 (XPrint.ab BK248.out hb)
                 replace HB := XPrint.A0 (below_step (by exact XPrint.bz HB.out) hb)
                 (try clear hb)
                 (try clear hb2)
                 (try clear hk)
                 (try clear hi)
                 refine hK.out _ _ ⟨(blk_cell BK217.out 0).trans rfl, (blk_cell BK217.out 1).trans rfl, (blk_cell BK225.out 0).trans rfl, (blk_cell BK225.out 1).trans rfl, (blk_cell BK231.out 0).trans rfl, (blk_cell BK231.out 1).trans rfl⟩ (fun hHeld => ?_)
                 clear hK K
                 refine norm_ (a' := ?_) ?_ ?_
                 rotate_left
                 ·show Act.put _ (some 120) _ = _
                  simp only [XPrint.pw, i64_w, i32_w]
                  rfl
                 refine XPrint.pu 56 121 (XPrint.L 79 144115188075855871) HT_.out (v := ?_) (a' := ?_) ?_ ?_ ?_
                 rotate_left
                 ·intro w'
                  go_simp
                  with_reducible rfl
                 rotate_left
                 ·simp only [XPrint.pw, i64_w, i32_w]
                  rfl
                 refine XPrint.pu 57 122 (XPrint.L 79 288230376151711743) HT_.out (v := ?_) (a' := ?_) ?_ ?_ ?_
                 rotate_left
                 ·intro w'
                  go_simp
                  with_reducible rfl
                 rotate_left
                 ·simp only [XPrint.pw, i64_w, i32_w]
                  rfl
                 refine XPrint.pu 58 123 (XPrint.L 79 576460752303423487) HT_.out (v := ?_) (a' := ?_) ?_ ?_ ?_
                 rotate_left
                 ·intro w'
                  go_simp
                  with_reducible rfl
                 rotate_left
                 ·simp only [XPrint.pw, i64_w, i32_w]
                  rfl
                 refine XPrint.pu 59 124 (XPrint.L 79 1152921504606846975) HT_.out (v := ?_) (a' := ?_) ?_ ?_ ?_
                 rotate_left
                 ·intro w'
                  go_simp
                  with_reducible rfl
                 rotate_left
                 ·simp only [XPrint.pw, i64_w, i32_w]
                  rfl
                 refine XPrint.pu 60 125 (XPrint.L 79 2305843009213693951) HT_.out (v := ?_) (a' := ?_) ?_ ?_ ?_
                 rotate_left
                 ·intro w'
                  go_simp
                  with_reducible rfl
                 rotate_left
                 ·simp only [XPrint.pw, i64_w, i32_w]
                  rfl
                 refine XPrint.pu 61 126 (XPrint.L 79 4611686018427387903) HT_.out (v := ?_) (a' := ?_) ?_ ?_ ?_
                 rotate_left
                 ·intro w'
                  go_simp
                  with_reducible rfl
                 rotate_left
                 ·simp only [XPrint.pw, i64_w, i32_w]
                  rfl
                 refine XPrint.pu 62 127 (XPrint.L 79 9223372036854775807) HT_.out (v := ?_) (a' := ?_) ?_ ?_ ?_
                 rotate_left
                 ·intro w'
                  go_simp
                  with_reducible rfl
                 rotate_left
                 ·simp only [XPrint.pw, i64_w, i32_w]
                  rfl
                 refine XPrint.pu 63 128 (XPrint.L 79 18446744073709551615) HT_.out (v := ?_) (a' := ?_) ?_ ?_ ?_
                 rotate_left
                 ·intro w'
                  go_simp
                  with_reducible rfl
                 rotate_left
                 ·simp only [XPrint.pw, i64_w, i32_w]
                  rfl
                 refine XPrint.pu 64 129 (XPrint.L 79 36893488147419103231) HT_.out (v := ?_) (a' := ?_) ?_ ?_ ?_
                 rotate_left
                 ·intro w'
                  go_simp
                  with_reducible rfl
                 rotate_left
                 ·simp only [XPrint.pw, i64_w, i32_w]
                  rfl
                 refine XPrint.pu 65 130 (XPrint.L 79 73786976294838206463) HT_.out (v := ?_) (a' := ?_) ?_ ?_ ?_
                 rotate_left
                 ·intro w'
                  go_simp
                  with_reducible rfl
                 rotate_left
                 ·simp only [XPrint.pw, i64_w, i32_w]
                  rfl
                 refine XPrint.pu 66 131 (XPrint.L 79 147573952589676412927) HT_.out (v := ?_) (a' := ?_) ?_ ?_ ?_
                 rotate_left
                 ·intro w'
                  go_simp
                  with_reducible rfl
                 rotate_left
                 ·simp only [XPrint.pw, i64_w, i32_w]
                  rfl
                 refine XPrint.pu 67 132 (XPrint.L 79 295147905179352825855) HT_.out (v := ?_) (a' := ?_) ?_ ?_ ?_
                 rotate_left
                 ·intro w'
                  go_simp
                  with_reducible rfl
                 rotate_left
                 ·simp only [XPrint.pw, i64_w, i32_w]
                  rfl
                 refine XPrint.pu 68 133 (XPrint.L 79 590295810358705651711) HT_.out (v := ?_) (a' := ?_) ?_ ?_ ?_
                 rotate_left
                 ·intro w'
                  go_simp
                  with_reducible rfl
                 rotate_left
                 ·simp only [XPrint.pw, i64_w, i32_w]
                  rfl
                 refine XPrint.pu 69 134 (XPrint.L 79 1180591620717411303423) HT_.out (v := ?_) (a' := ?_) ?_ ?_ ?_
                 rotate_left
                 ·intro w'
                  go_simp
                  with_reducible rfl
                 rotate_left
                 ·simp only [XPrint.pw, i64_w, i32_w]
                  rfl
                 refine XPrint.pu 70 135 (XPrint.L 79 2361183241434822606847) HT_.out (v := ?_) (a' := ?_) ?_ ?_ ?_
                 rotate_left
                 ·intro w'
                  go_simp
                  with_reducible rfl
                 rotate_left
                 ·simp only [XPrint.pw, i64_w, i32_w]
                  rfl
                 refine XPrint.pu 71 136 (XPrint.L 79 4722366482869645213695) HT_.out (v := ?_) (a' := ?_) ?_ ?_ ?_
                 rotate_left
                 ·intro w'
                  go_simp
                  with_reducible rfl
                 rotate_left
                 ·simp only [XPrint.pw, i64_w, i32_w]
                  rfl
                 refine XPrint.pu 72 137 (XPrint.L 79 9444732965739290427391) HT_.out (v := ?_) (a' := ?_) ?_ ?_ ?_
                 rotate_left
                 ·intro w'
                  go_simp
                  with_reducible rfl
                 rotate_left
                 ·simp only [XPrint.pw, i64_w, i32_w]
                  rfl
                 refine XPrint.pu 73 138 (XPrint.L 79 18889465931478580854783) HT_.out (v := ?_) (a' := ?_) ?_ ?_ ?_
                 rotate_left
                 ·intro w'
                  go_simp
                  with_reducible rfl
                 rotate_left
                 ·simp only [XPrint.pw, i64_w, i32_w]
                  rfl
                 refine XPrint.pu 74 139 (XPrint.L 79 37778931862957161709567) HT_.out (v := ?_) (a' := ?_) ?_ ?_ ?_
                 rotate_left
                 ·intro w'
                  go_simp
                  with_reducible rfl
                 rotate_left
                 ·simp only [XPrint.pw, i64_w, i32_w]
                  rfl
                 refine XPrint.pu 75 140 (XPrint.L 79 75557863725914323419135) HT_.out (v := ?_) (a' := ?_) ?_ ?_ ?_
                 rotate_left
                 ·intro w'
                  go_simp
                  with_reducible rfl
                 rotate_left
                 ·simp only [XPrint.pw, i64_w, i32_w]
                  rfl
                 refine XPrint.pu 76 141 (XPrint.L 79 151115727451828646838271) HT_.out (v := ?_) (a' := ?_) ?_ ?_ ?_
                 rotate_left
                 ·intro w'
                  go_simp
                  with_reducible rfl
                 rotate_left
                 ·simp only [XPrint.pw, i64_w, i32_w]
                  rfl
                 refine XPrint.pu 77 142 (XPrint.L 79 302231454903657293676543) HT_.out (v := ?_) (a' := ?_) ?_ ?_ ?_
                 rotate_left
                 ·intro w'
                  go_simp
                  with_reducible rfl
                 rotate_left
                 ·simp only [XPrint.pw, i64_w, i32_w]
                  rfl
                 refine XPrint.pu 78 0 (XPrint.L 79 604462909807314587353087) HT_.out (v := ?_) (a' := ?_) ?_ ?_ ?_
                 rotate_left
                 ·intro w'
                  go_simp
                  with_reducible rfl
                 rotate_left
                 ·simp only [XPrint.pw, i64_w, i32_w]
                  rfl
                 refine done_ (done_of HT_.out (by kernel_rfl)) ?_
                 try go_wp2
                 go_ret
                 exact ⟨by first | rfl | (simp [errW_none, errW_some] <;> rfl) | (simp [*, errW_none, errW_some] <;> rfl), by exact XPrint.bz HB.out⟩
                ·rw [if_neg c55] at H
                 have c55b0 : (t260 == 0) = false := beq_eq_false_iff_ne.mpr c55
                 have c55b1 : (t260 != 0) = true := bne_iff_ne.mpr c55
                 exact absurd H (by simp)
               ·rw [if_neg c54] at H
                have c54b0 : (t259 == 0) = false := beq_eq_false_iff_ne.mpr c54
                have c54b1 : (t259 != 0) = true := bne_iff_ne.mpr c54
                exact absurd H (by simp)
              ·rw [if_neg c53] at H
               have c53b0 : (t254 == 0) = false := beq_eq_false_iff_ne.mpr c53
               have c53b1 : (t254 != 0) = true := bne_iff_ne.mpr c53
               exact absurd H (by simp)
             ·rw [if_neg c52] at H
              have c52b0 : (t253 == 3) = false := beq_eq_false_iff_ne.mpr c52
              have c52b1 : (t253 != 3) = true := bne_iff_ne.mpr c52
              exact absurd H (by simp)
           ·replace c47 := Bool.eq_false_iff.mpr c47
            subst c47
            have H1 := H; rw [if_neg (show ¬ (false = true) by decide)] at H1
            clear H
            have H := H1
            clear H1
            exact absurd H (by simp)
          ·rw [if_neg c43] at H
           have c43b0 : (t285 == t287 && (t286 == t288)) = false := by simpa using c43
           (try (have c43b1 : decide (t285 = t287 && (t286 == t288)) = false := by simpa using c43))
           (try (have c43b2 : (t285 == t287 && (t286 == t288)) = false := by simpa using c43))
           (try (have c43b3 : ¬ (t285 = t287 && (t286 == t288)) := by simpa using c43))
           clear c43
           exact absurd H (by simp)
         ·rw [if_neg c38] at H
          have c38b0 : (t277 == t279 && (t278 == t280)) = false := by simpa using c38
          (try (have c38b1 : decide (t277 = t279 && (t278 == t280)) = false := by simpa using c38))
          (try (have c38b2 : (t277 == t279 && (t278 == t280)) = false := by simpa using c38))
          (try (have c38b3 : ¬ (t277 = t279 && (t278 == t280)) := by simpa using c38))
          clear c38
          exact absurd H (by simp)
        ·rw [if_neg c33] at H
         have c33b0 : (t247 == 10) = false := beq_eq_false_iff_ne.mpr c33
         have c33b1 : (t247 != 10) = true := bne_iff_ne.mpr c33
         exact absurd H (by simp)
       ·rw [if_neg c32] at H
        have c32b0 : (t241 == 10) = false := beq_eq_false_iff_ne.mpr c32
        have c32b1 : (t241 != 10) = true := bne_iff_ne.mpr c32
        exact absurd H (by simp)
      ·rw [if_neg c31] at H
       have c31b0 : (t230 == 0) = false := beq_eq_false_iff_ne.mpr c31
       have c31b1 : (t230 != 0) = true := bne_iff_ne.mpr c31
       exact absurd H (by simp)
     ·rw [if_neg c30] at H
      have c30b0 : (t228 == t271 && (t229 == t272)) = false := by simpa using c30
      (try (have c30b1 : decide (t228 = t271 && (t229 == t272)) = false := by simpa using c30))
      (try (have c30b2 : (t228 == t271 && (t229 == t272)) = false := by simpa using c30))
      (try (have c30b3 : ¬ (t228 = t271 && (t229 == t272)) := by simpa using c30))
      clear c30
      exact absurd H (by simp)
    ·rw [if_neg c28] at H
     have c28b0 : (t224 == 0) = false := beq_eq_false_iff_ne.mpr c28
     have c28b1 : (t224 != 0) = true := bne_iff_ne.mpr c28
     exact absurd H (by simp)
   ·rw [if_neg c27] at H
    have c27b0 : (t222 == t269 && (t223 == t270)) = false := by simpa using c27
    (try (have c27b1 : decide (t222 = t269 && (t223 == t270)) = false := by simpa using c27))
    (try (have c27b2 : (t222 == t269 && (t223 == t270)) = false := by simpa using c27))
    (try (have c27b3 : ¬ (t222 = t269 && (t223 == t270)) := by simpa using c27))
    clear c27
    exact absurd H (by simp)
  ·rw [if_neg c25] at H
   have c25b0 : (t216 == 0) = false := beq_eq_false_iff_ne.mpr c25
   have c25b1 : (t216 != 0) = true := bne_iff_ne.mpr c25
   exact absurd H (by simp)
 ·rw [if_neg c24] at H
  have c24b0 : (t214 == t267 && (t215 == t268)) = false := by simpa using c24
  (try (have c24b1 : decide (t214 = t267 && (t215 == t268)) = false := by simpa using c24))
  (try (have c24b2 : (t214 == t267 && (t215 == t268)) = false := by simpa using c24))
  (try (have c24b3 : ¬ (t214 = t267 && (t215 == t268)) := by simpa using c24))
  clear c24
  exact absurd H (by simp)

end Go.Proofs.Ytdcgilnmncanfaa.PVecOrder
