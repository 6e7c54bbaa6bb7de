/- node.Table: Copy (maps.Clone). -/
import Derived.Test.YthibppfdonepoaaCLedgerRoomsHNodeD
import Derived.Laws.Externs
set_option linter.unusedVariables false
namespace Go.Proofs.Ythibppfdonepoaa.NodeT
open Go.RowKit Go.MapKept Go.Maps Go.ChangeMaps Go.Proofs.Ythibppfdonepoaa.XBut Go.Proofs.Ythibppfdonepoaa.XMap Go.Proofs.Ythibppfdonepoaa.PNodePlays Go.Proofs.YthibppfdonepoaaW.PrintWords Go.Proofs.YthibppfdonepoaaW.PrintLast
theorem eq_map_nil {P : Program} (w : World) (t k e : TypeId) (p : Option Nat) (h : P.underlying t = some (.map k e)) : (binOp .eql t (.map p) (.map none)).run P w = .ok (.bool p.isNone) w := by
  have e0 : ∀ d, (Op.equalIn (d + 1) t (.map p) (.map none)).run P w = .ok p.isNone w := by
    intro d
    cases p <;> simp [Op.equalIn, run_underlying h]
  have e1 := e0 9999
  simp only [binOp]
  simp [show Op.equal t (.map p) (.map none) = Op.equalIn (9999 + 1) t (.map p) (.map none) from rfl, e1]
theorem assert_map {P : Program} (w : World) (t xT k e : TypeId) (v : Value) (h : P.underlying t = some (.map k e)) : (Instr.typeAssert (.iface t v) xT t false).run P w = .ok v w := by
  simp [Instr.typeAssert, run_underlying h, go_sem, Result.andThen]
theorem clone_run {P : Program} {w : World} {r : Nat} {es : Array MapEntry} {clock : Nat} (t : TypeId) (hb : w.heap[r]? = some (.map es clock)) :
    (Extern.MapsClone.clone #[.iface t (.map (some r))]).run P w = .ok (.iface t (.map (some w.heap.size))) (w.alloc (.map es clock)) := by
  have e : Extern.MapsClone.clone #[.iface t (.map (some r))] = (getObj r >>= fun o => match o with
      | .map entries clock => (newObj (.map entries clock) >>= fun n => pure (.iface t (.map (some n))))
      | _ => stuck "maps.clone: a map expected") := rfl
  rw [e]
  simp [MapKept.run_getObj_map hb, Result.andThen, go_sem]
set_option maxHeartbeats 4000000 in
set_option maxRecDepth 100000 in
theorem clone (g : Nat) (es : Array MapEntry) (clock : Nat) (w : World) (hb : w.heap[g]? = some (.map es clock)) :
    Calls Try.prog 82 #[.map (some g)] w fun e w' => e = .returned (.map (some w.heap.size)) ∧ w' = w.alloc (.map es clock) := by
  have hq := fun w => eq_map_nil (P := Try.prog) w 61 _ _ (some g) Try.underlying61
  go_enter Try.func82, Try.ntmps82
  go_wp2
  rw [run_callFunc_extern Try.func130 (by kernel_rfl) (by kernel_rfl) (by kernel_rfl) (e := Extern.MapsClone.clone) (by kernel_rfl), clone_run 61 hb]
  simp only [Result.andThen]
  rw [Oper.upon_value]
  go_wp2
  rw [assert_map _ 61 20 _ _ _ Try.underlying61]
  simp only [Result.andThen]
  rw [Oper.upon_value]
  go_wp2
  go_ret
  exact ⟨rfl, rfl⟩
set_option maxHeartbeats 4000000 in
set_option maxRecDepth 100000 in
theorem copy (base b g : Nat) (u0 u1 : Int) (ns : List S39) (w : World) (hT : TabAt w base b g u0 u1 ns) :
    Calls Try.prog 29 #[.pointer (some ⟨b, 0, none⟩)] w fun e w' => ∃ b' g', e = .returned (.pointer (some ⟨b', 0, none⟩)) ∧ Below w.heap.size w w' ∧ TabAt w' w.heap.size b' g' u0 u1 ns := by
  have hl := hT.lt.1
  obtain ⟨c0, c1, c2⟩ := hT.set_cells
  have hu23 := Try.underlying23
  obtain ⟨es, clock, hb, hF⟩ := hT.map
  have H := Aside0.mk (And.intro hT (And.intro hb hF))
  clear hT hb hF
  go_enter Try.func29, Try.ntmps29
  go_wp2_with fail
  refine (none_map b (some g) _ c2).mono ?_
  rintro e wz ⟨rfl, hz⟩
  obtain rfl := hz.symm
  clear hz
  simp only [Option.isNone]
  go_wp2_with fail
  have KL : ∀ w', Below w.heap.size w w' → Below w.heap.size w w' ∧ w'.cell? ⟨b, 0, none⟩ = some (.int .i64 u0) ∧ w'.cell? ⟨b, 1, none⟩ = some (.int .i64 u1) ∧ w'.cell? ⟨b, 2, none⟩ = some (.map (some g)) := fun w' h =>
    ⟨h, pw_cell_below h c0, pw_cell_below h c1, pw_cell_below h c2⟩
  have K := Aside0.mk KL
  have HG : Aside0 (∀ w', Below w.heap.size w w' → w'.heap[g]? = some (.map es clock)) := ⟨fun w' h => (h.block _ H.out.1.lt.2).trans H.out.2.1⟩
  clear KL c0 c1 c2
  go_region_held3? (fun w' => Below w.heap.size w w' ∧ w'.cell? ⟨b, 0, none⟩ = some (.int .i64 u0) ∧ w'.cell? ⟨b, 1, none⟩ = some (.int .i64 u1) ∧ w'.cell? ⟨b, 2, none⟩ = some (.map (some g)))
    (first | exact K.out _ (below_drew (Below.refl _ _)) | exact K.out _ (below_alloc (And.left (by assumption)) _) | go_keep)
    (first | (go_simp; go_at_call 82; (with_reducible refine (clone g es clock _ (HG.out _ (And.left (by assumption)))).mono ?_); rintro e wz ⟨rfl, rfl⟩; dsimp only))
  go_wp2
  go_ret
  refine ⟨_, _, rfl, below_drew (below_alloc (below_alloc (Below.refl _ _) _) _), ⟨?_, ⟨es, clock, ?_, H.out.2.2⟩, by omega, Nat.le_refl _⟩⟩
  · have := blk_new (w.alloc (.map es clock)) (.cells #[.int .i64 u0, .int .i64 u1, .map (some w.heap.size)] 63)
    rw [World.size_alloc] at this
    exact this
  · exact (Below.heap_alloc _ _ _ (by simp)).trans (World.alloc_heap_new w _)
end Go.Proofs.Ythibppfdonepoaa.NodeT
