/- liverylaw22.head. -/
import Derived.Test.YthibppfdonepoaaCLedgerRoomsHNodeF
import Derived.Test.YthibppfdonepoaaCLedgerRoomsPNodePlaysx12
set_option linter.unusedVariables false
namespace Go.Proofs.Ythibppfdonepoaa.NodeT
open Go.RowKit Go.MapKept Go.Maps Go.ChangeMaps Go.Proofs.Ythibppfdonepoaa.XBut Go.Proofs.Ythibppfdonepoaa.XMap Go.Proofs.Ythibppfdonepoaa.PNodePlays Go.Proofs.Ythibppfdonepoaa.Srt Go.Proofs.YthibppfdonepoaaW.PrintWords Go.Proofs.YthibppfdonepoaaW.PrintLast
/-- The table of base's call: it lies in what is new since w0. -/
structure At (w0 w : World) (b g : Nat) (u0 u1 : Int) (ns : List S39) : Prop where
  below : Below w0.heap.size w0 w
  tab : TabAt w w0.heap.size b g u0 u1 ns
theorem At.step {w0 w w' : World} {b g : Nat} {u0 u1 : Int} {ns ns' : List S39} (h : At w0 w b g u0 u1 ns) (hb : But (fun k => k = g) w w') (hT : TabAt w' w0.heap.size b g u0 u1 ns') : At w0 w' b g u0 u1 ns' :=
  ⟨But.below h.below (Nat.le_refl _) hb (fun k hk => by rw [hk]; exact hT.base2), hT⟩
theorem At.same {w0 w w' : World} {b g : Nat} {u0 u1 : Int} {ns : List S39} (h : At w0 w b g u0 u1 ns) (hb : Below w.heap.size w w') : At w0 w' b g u0 u1 ns :=
  ⟨below_step h.below hb, h.tab.below hb⟩
def n5 : S39 := ⟨5, ⟨7, 9⟩⟩
def n3 : S39 := ⟨3, ⟨4, 1⟩⟩
def U0 (x : S39) : Int := if x.f0 = 5 then 3 else 1
theorem two {Q : S39 → Prop} (h3 : Q n3) (h5 : Q n5) : ∀ x ∈ [n3, n5], Q x := by
  intro x hx
  rcases List.mem_cons.1 hx with rfl | hx
  · exact h3
  · rw [List.mem_singleton.1 hx]; exact h5
theorem units2 : ∀ x ∈ [n3, n5], vec_Units.f 5 x.f1.f0 x.f1.f1 2 1 = some (U0 x, 0) := two (by decide +kernel) (by decide +kernel)
theorem small2 : ∀ x ∈ [n3, n5], 0 ≤ U0 x ∧ U0 x ≤ 1073741824 := two (by decide) (by decide)
theorem units1 : ∀ x ∈ [n3], vec_Units.f 5 x.f1.f0 x.f1.f1 2 1 = some (U0 x, 0) := fun x hx => units2 x (by simp at hx; simp [hx])
theorem small1 : ∀ x ∈ [n3], 0 ≤ U0 x ∧ U0 x ≤ 1073741824 := fun x hx => small2 x (by simp at hx; simp [hx])
theorem sum2 : sumU U0 [n3, n5] = 4 := by decide
theorem sum1 : sumU U0 [n3] = 1 := by decide
theorem lit2 (w : World) : Kd.C k39 (w.alloc (.cells #[.int .u32 3, .int .i64 4, .int .i64 1, .int .u32 5, .int .i64 7, .int .i64 9] 39)) (some ⟨w.heap.size, 0, none⟩) 2 [n3, n5] := by
  have h : Kd.R k39 39 (w.alloc (.cells #[.int .u32 3, .int .i64 4, .int .i64 1, .int .u32 5, .int .i64 7, .int .i64 9] 39)) w.heap.size (fun _ => True) (.slice (some ⟨w.heap.size, 0, none⟩) 2 2) [n3, n5] :=
    ⟨fun _ _ => trivial, [.int .u32 3, .int .i64 4, .int .i64 1, .int .u32 5, .int .i64 7, .int .i64 9], World.ownsRow_lit w _ 2 (Nat.le_refl _) (by decide) rfl,
      Reps.c3 (k39_mkM _ _ _ n3) (Reps.c3 (k39_mkM _ _ _ n5) (Reps.none _ _))⟩
  exact (Kd.R_reads' h).2.2
set_option maxHeartbeats 16000000 in
set_option maxRecDepth 100000 in
theorem head (w : World) : Calls Try.prog 17 #[] w fun e w' => e = .returned (.bool true) ∧ Below w.heap.size w w' := by
  have hu23 := Try.underlying23
  have hu39 := Try.underlying39
  have p5 : Aside0 (vec_Units.f 5 7 9 2 1 = some (3, 0)) := ⟨by decide +kernel⟩
  have p3 : Aside0 (vec_Units.f 5 4 1 2 1 = some (1, 0)) := ⟨by decide +kernel⟩
  have pz : Aside0 (vec_Units.f 5 1 1 2 1 = some (0, 0)) := ⟨by decide +kernel⟩
  go_enter Try.func17, Try.ntmps17
  go_wp2_with fail
  refine (new_yes 2 1 _ (by decide)).mono ?_
  rintro e w1 ⟨b, g, rfl, hb, hT⟩
  have X := Aside0.mk (At.mk hb hT)
  clear hb hT
  dsimp only
  go_wp2_with fail
  refine (new_no 2 0 _ (by decide)).mono ?_
  rintro e w2 ⟨rfl, hb⟩
  replace X := Aside0.mk (X.out.same hb)
  clear hb
  dsimp only
  go_wp2_with fail
  refine (liverylaw22_of.calls 5 7 9 5 7 9 _ rfl).mono ?_
  rintro e w3 ⟨rfl, hb⟩
  replace X := Aside0.mk (X.out.same hb)
  clear hb
  dsimp only
  go_wp2_with fail
  refine (join _ b g 2 1 5 7 9 _ _ X.out.tab (by decide) (by decide) 5 true 3 0 (fun _ => by decide) (fun _ _ => p5.out)).mono ?_
  rintro e w4 ⟨rfl, hb, hT⟩
  replace X := Aside0.mk (show At w w4 b g 2 1 [n5] from X.out.step hb hT)
  rw [show joins 5 true 3 (who [] 5).isSome ([] : List S39).length = 0 by decide]
  clear hb hT
  dsimp only
  go_wp2_with fail
  refine (liverylaw22_of.calls 3 4 1 3 4 1 _ rfl).mono ?_
  rintro e w5 ⟨rfl, hb⟩
  replace X := Aside0.mk (X.out.same hb)
  clear hb
  dsimp only
  go_wp2_with fail
  refine (join _ b g 2 1 3 4 1 _ _ X.out.tab (by decide) (by decide) 5 true 1 0 (fun _ => by decide) (fun _ _ => p3.out)).mono ?_
  rintro e w6 ⟨rfl, hb, hT⟩
  replace X := Aside0.mk (show At w w6 b g 2 1 [n3, n5] from X.out.step hb hT)
  rw [show joins 3 true 1 (who [n5] 3).isSome ([n5] : List S39).length = 0 by decide]
  clear hb hT
  dsimp only
  go_wp2_with fail
  refine (liverylaw22_of.calls 5 1 1 5 1 1 _ rfl).mono ?_
  rintro e w7 ⟨rfl, hb⟩
  replace X := Aside0.mk (X.out.same hb)
  clear hb
  dsimp only
  go_wp2_with fail
  refine (join _ b g 2 1 5 1 1 _ _ X.out.tab (by decide) (by decide) 5 true 0 0 (fun _ => by decide) (fun _ _ => pz.out)).mono ?_
  rintro e w8 ⟨rfl, hb, hT⟩
  replace X := Aside0.mk (show At w w8 b g 2 1 [n3, n5] from X.out.step hb hT)
  rw [show joins 5 true 0 (who [n3, n5] 5).isSome ([n3, n5] : List S39).length = 8 by decide]
  clear hb hT
  dsimp only
  go_wp2_with fail
  refine (liverylaw22_of.calls 0 1 1 0 1 1 _ rfl).mono ?_
  rintro e w9 ⟨rfl, hb⟩
  replace X := Aside0.mk (X.out.same hb)
  clear hb
  dsimp only
  go_wp2_with fail
  refine (join _ b g 2 1 0 1 1 _ _ X.out.tab (by decide) (by decide) 5 true 0 0 (fun h => absurd rfl h) (fun h => absurd rfl h)).mono ?_
  rintro e w10 ⟨rfl, hb, hT⟩
  replace X := Aside0.mk (show At w w10 b g 2 1 [n3, n5] from X.out.step hb hT)
  rw [show joins 0 true 0 (who [n3, n5] 0).isSome ([n3, n5] : List S39).length = 2 by decide]
  clear hb hT
  dsimp only
  go_wp2_with fail
  refine (units_yes 5 _ b g 2 1 5 _ n5 3 0 _ X.out.tab (by decide) (by rfl) p5.out).mono ?_
  rintro e w11 ⟨rfl, hb⟩
  replace X := Aside0.mk (X.out.same hb)
  clear hb
  dsimp only
  go_wp2_with fail
  refine (units_yes 5 _ b g 2 1 3 _ n3 1 0 _ X.out.tab (by decide) (by rfl) p3.out).mono ?_
  rintro e w12 ⟨rfl, hb⟩
  replace X := Aside0.mk (X.out.same hb)
  clear hb
  dsimp only
  go_wp2_with fail
  refine (units_no _ b g 2 1 4 _ _ X.out.tab (by decide) (by rfl)).mono ?_
  rintro e w13 ⟨rfl, hb⟩
  replace X := Aside0.mk (X.out.same hb)
  clear hb
  dsimp only
  go_wp2_with fail
  refine (total 5 _ b g 2 1 [n3, n5] U0 (fun _ => 0) _ X.out.tab (by decide) units2 small2).mono ?_
  rintro e w14 ⟨rfl, hb⟩
  rw [sum2]
  replace X := Aside0.mk (X.out.same hb)
  clear hb
  dsimp only
  go_wp2_with fail
  refine (cap 5 _ b g 2 1 [n3, n5] U0 (fun _ => 0) _ X.out.tab (by decide) units2 small2 8 4 0 (by decide +kernel)).mono ?_
  rintro e w15 ⟨rfl, hb⟩
  replace X := Aside0.mk (X.out.same hb)
  clear hb
  dsimp only
  go_wp2_with fail
  refine (nodes _ b g 2 1 [n3, n5] _ X.out.tab (by decide)).mono ?_
  rintro e w16 ⟨v, rfl, hR, hb⟩
  have hg := X.out.tab.lt.2
  replace X := Aside0.mk (X.out.same hb)
  have hs := hb.size
  have R := Aside0.mk (And.intro hR (And.intro hg hs))
  clear hR hb hg hs
  dsimp only
  go_wp2_with fail
  refine (lose_yes _ b g 2 1 5 _ n5 _ (X.out.same (below_alloc (Below.refl _ _) (.cells #[.int .i64 8, .int .i64 4] 23))).tab (by decide) (by rfl)).mono ?_
  rintro e w18 ⟨rfl, hb, hT⟩
  have b16 := hb.heap (blk_new w16 _) (by have := R.out.2; omega)
  have R18 := R_but (Kd.R_below R.out.1 (below_alloc (Below.refl _ _) _)) hb (fun k hk => by rw [hk]; exact R.out.2.1)
  replace X := Aside0.mk (show At w w18 b g 2 1 [n3] from (X.out.same (below_alloc (Below.refl _ _) _)).step hb hT)
  have Y := Aside0.mk (And.intro b16 R18)
  clear hb hT b16 R18 R
  unfold nv n5
  dsimp only
  go_wp2_with fail
  refine (lose_no _ b g 2 1 5 [n3] _ (X.out.same (below_alloc (Below.refl _ _) (.cells #[.int .u32 5, .int .i64 7, .int .i64 9] 39))).tab (by decide) (by rfl)).mono ?_
  rintro e w19 ⟨rfl, hb⟩
  have b18 := blk_below (blk_new w18 (.cells #[.int .u32 5, .int .i64 7, .int .i64 9] 39)) hb
  have b16 := blk_below (blk_alloc Y.out.1 (.cells #[.int .u32 5, .int .i64 7, .int .i64 9] 39)) hb
  have R19 := Kd.R_below (Kd.R_below Y.out.2 (below_alloc (Below.refl _ _) _)) hb
  replace X := Aside0.mk ((X.out.same (below_alloc (Below.refl _ _) _)).same hb)
  replace Y := Aside0.mk (And.intro b16 (And.intro b18 R19))
  clear hb b16 b18 R19
  dsimp only
  go_upto_region 12 with (fail)
  obtain ⟨A, c, rfl⟩ := Kd.R_slice Y.out.2.2
  obtain ⟨_, hc, hC⟩ := Kd.R_reads' Y.out.2.2
  obtain ⟨WA, hWA⟩ : ∃ WA, w19.alloc (Obj.cells #[.int .u32 0, .int .i64 0, .int .i64 0] 39) = WA := ⟨_, rfl⟩
  have hB : Below w19.heap.size w19 WA := by rw [← hWA]; exact below_alloc (Below.refl _ _) _
  have XA := X.out.same hB
  have k16 := blk_below Y.out.1 hB
  have k18 := blk_below Y.out.2.1 hB
  have hC2 := Kd.C_below hC hB
  have KL : ∀ w', Below WA.heap.size WA w' → Below WA.heap.size WA w' ∧ w'.cell? ⟨w16.heap.size, 0, none⟩ = some (.int .i64 8) ∧ w'.cell? ⟨w16.heap.size, 1, none⟩ = some (.int .i64 4) ∧ w'.cell? ⟨w18.heap.size, 0, none⟩ = some (.int .u32 5) ∧ w'.cell? ⟨w18.heap.size, 1, none⟩ = some (.int .i64 7) ∧ w'.cell? ⟨w18.heap.size, 2, none⟩ = some (.int .i64 9) := fun w' h =>
    ⟨h, (blk_cell (blk_below k16 h) 0).trans rfl, (blk_cell (blk_below k16 h) 1).trans rfl, (blk_cell (blk_below k18 h) 0).trans rfl, (blk_cell (blk_below k18 h) 1).trans rfl, (blk_cell (blk_below k18 h) 2).trans rfl⟩
  have SM : ∀ w' B, Below WA.heap.size WA w' → Kd.C k39 w' B 2 [n3, n5] → Calls Try.prog 31 #[.slice A 2 c, .slice B 2 2] w' fun e w'' => e = .returned (.bool true) ∧ Drawn0 w' w'' := fun w' B h hb =>
    liveryref22_Same.calls 5 A c [n3, n5] B 2 [n3, n5] true w' (Kd.C_below hC2 h) hc hb (Nat.le_refl _) (by decide +kernel)
  have TM : ∀ w', Below WA.heap.size WA w' → Calls Try.prog 28 #[.pointer (some ⟨b, 0, none⟩)] w' fun e w'' => e = .returned (.int .i64 1) ∧ Below w'.heap.size w' w'' := fun w' h => by
    have := total 5 _ b g 2 1 [n3] U0 (fun _ => 0) w' (XA.same h).tab (by decide) units1 small1
    rwa [sum1] at this
  have XX := Aside0.mk XA.below
  have e39 := eqA39
  have e23 := eqA23
  clear X Y hB XA k16 k18 hC hC2 hc p5 p3 pz
  rw [hWA]
  simp only [List.append_eq, List.cons_append, List.nil_append, List.length_cons, List.length_nil, Nat.reduceAdd]
  go_region_held3? (fun w' => Below WA.heap.size WA w' ∧ w'.cell? ⟨w16.heap.size, 0, none⟩ = some (.int .i64 8) ∧ w'.cell? ⟨w16.heap.size, 1, none⟩ = some (.int .i64 4) ∧ w'.cell? ⟨w18.heap.size, 0, none⟩ = some (.int .u32 5) ∧ w'.cell? ⟨w18.heap.size, 1, none⟩ = some (.int .i64 7) ∧ w'.cell? ⟨w18.heap.size, 2, none⟩ = some (.int .i64 9))
    (first | exact KL _ (below_drew (Below.refl _ _)) | exact KL _ (below_step (And.left (by assumption)) hb) | exact KL _ (below_alloc (And.left (by assumption)) _) | exact KL _ (pw_below_drewN (below_alloc (And.left (by assumption)) _) nd) | exact KL _ (pw_below_drewN (And.left (by assumption)) nd) | go_keep)
    (first
      | (go_simp; go_at_call 66; (with_reducible refine (liverylaw22_of.calls 3 4 1 3 4 1 _ rfl).mono ?_); rintro e wz ⟨rfl, hb⟩; dsimp only)
      | (go_simp; go_at_call 66; (with_reducible refine (liverylaw22_of.calls 5 7 9 5 7 9 _ rfl).mono ?_); rintro e wz ⟨rfl, hb⟩; dsimp only)
      | (go_simp; go_at_call 28; (with_reducible refine (TM _ (And.left (by assumption))).mono ?_); rintro e wz ⟨rfl, hb⟩; dsimp only)
      | (go_simp; go_at_call 31; refine (SM _ _ (And.left (by assumption)) (lit2 _)).mono ?_; rintro e wz ⟨rfl, ⟨nd, rfl⟩⟩; dsimp only))
  go_wp2
  go_ret
  exact ⟨rfl, below_step XX.out (And.left (by assumption))⟩
end Go.Proofs.Ythibppfdonepoaa.NodeT
