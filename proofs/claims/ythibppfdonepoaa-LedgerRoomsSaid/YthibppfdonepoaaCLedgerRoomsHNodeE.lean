/- node.Table: Unit, Nodes. -/
import Derived.Test.YthibppfdonepoaaCLedgerRoomsHNodeD
import Derived.Test.YthibppfdonepoaaCLedgerRoomsHMapSorted
set_option linter.unusedVariables false
namespace Go.Proofs.Ythibppfdonepoaa.NodeT
open Go.RowKit Go.MapKept Go.Maps Go.ChangeMaps Go.Proofs.Ythibppfdonepoaa.XBut Go.Proofs.Ythibppfdonepoaa.XMap Go.Proofs.Ythibppfdonepoaa.PNodePlays Go.Proofs.Ythibppfdonepoaa.Srt Go.Proofs.YthibppfdonepoaaW.PrintWords Go.Proofs.YthibppfdonepoaaW.PrintLast
set_option maxHeartbeats 4000000 in
set_option maxRecDepth 100000 in
theorem unit (base b g : Nat) (u0 u1 : Int) (ns : List S39) (w : World) (hT : TabAt w base b g u0 u1 ns) :
    Calls Try.prog 32 #[.pointer (some ⟨b, 0, none⟩)] w fun e w' => e = .returned (.agg #[.int .i64 u0, .int .i64 u1]) ∧ Below w.heap.size w w' := by
  have hl := hT.lt.1
  have hT2 := fun o => hT.below (below_alloc (Below.refl _ _) o)
  have c0 := fun o => (hT2 o).set_cells.1
  have c1 := fun o => (hT2 o).set_cells.2.1
  have c2 := fun o => (hT2 o).set_cells.2.2
  have hu23 := Try.underlying23
  clear hT hT2
  go_enter Try.func32, Try.ntmps32
  go_wp2_with fail
  refine (none_map b (some g) _ (c2 _)).mono ?_
  rintro e w1 ⟨rfl, rfl⟩
  simp only [Option.isNone]
  go_wp2
  refine bodyPost_ret (v := .agg #[.int .i64 u0, .int .i64 u1]) (by simp [results, Try.results32, go_sem]) rfl ⟨rfl, ?_⟩
  exact below_alloc (Below.refl _ _) _
theorem rising_en {ns : List S39} : (ns.map en).map (·.1) = ns.map (·.f0) := by
  rw [List.map_map]; rfl
theorem nv_inj {x y : S39} (h : nv x = nv y) : x = y := by
  obtain ⟨x0, x1, x2⟩ := x
  obtain ⟨y0, y1, y2⟩ := y
  unfold nv at h
  simp at h
  obtain ⟨rfl, rfl, rfl⟩ := h
  rfl
theorem who_self {ns : List S39} (hr : Rising (ns.map en)) {x : S39} (hx : x ∈ ns) : who ns x.f0 = some x := by
  have h := look_mem hr (List.mem_map.2 ⟨x, hx, rfl⟩)
  have h2 : XMap.look (ns.map en) x.f0 = some (nv x) := h
  rw [look_en] at h2
  obtain ⟨y, hy, he⟩ := Option.map_eq_some_iff.1 h2
  rw [hy, nv_inj he]
set_option maxHeartbeats 8000000 in
set_option maxRecDepth 100000 in
theorem nodes (base b g : Nat) (u0 u1 : Int) (ns : List S39) (w : World) (hT : TabAt w base b g u0 u1 ns) (hl : ns.length ≤ 1000000) :
    Calls Try.prog 22 #[.pointer (some ⟨b, 0, none⟩)] w fun e w' => ∃ v, e = .returned v ∧ Kd.R k39 39 w' w.heap.size (fun _ => True) v ns ∧ Below w.heap.size w w' := by
  obtain ⟨_, _, c2⟩ := hT.set_cells
  have HT := Aside0.mk (And.intro hT hl)
  clear hT hl
  go_enter Try.func22, Try.ntmps22
  go_wp2_with fail
  refine (none_map b (some g) _ c2).mono ?_
  rintro e wz ⟨rfl, hz⟩
  obtain rfl := hz.symm
  clear hz
  simp only [Option.isNone]
  go_wp2_with fail
  refine (Keys.keys g _).mono ?_
  rintro e w1 ⟨o, rfl, rfl, t, rfl⟩
  dsimp only
  go_wp2_with fail
  have hT1 := HT.out.1.below (below_alloc (Below.refl _ _) (Obj.cells #[.map (some g)] t (0, 0)))
  refine (Keys.sorted g _ t _ _ hT1.map (blk_new _ _) (by rw [List.length_map]; have := HT.out.2; omega)).mono ?_
  rintro e w1 ⟨hB, hcase⟩
  have hB1 : Below w.heap.size w w1 := below_then (below_alloc (Below.refl _ _) _) (by simp) hB
  have hT2 := HT.out.1.below hB1
  have hris : Rising (ns.map en) := HT.out.1.map.rising
  have hlen := HT.out.2
  have hwf := HT.out.1.map.wf
  rcases hcase with ⟨rfl, hm⟩ | ⟨r, cap, d, rfl, hr, hRow, hP, hS⟩
  · have hns : ns = [] := by simpa using hm
    subst hns
    have H := Aside0.mk hB1
    clear hB hT1 hB1 hT2 hris hm HT c2 hlen hwf
    dsimp only
    go_wp2
    go_loopg [3, 15] 0 (fun kk v3 v15 wr => v3 = .slice none 0 0 ∧ v15 = .int .i64 0 ∧ Below w.heap.size w wr)
    case atStart => exact ⟨rfl, rfl, H.out⟩
    obtain ⟨rfl, rfl, hB⟩ := hrel
    have H2 := Aside0.mk hB
    clear hB
    go_wp2
    go_ret
    exact ⟨_, rfl, Kd.R_nil _ _ _ _ _, H2.out⟩
  · have hk := Keys.keys_eq hris hP hS
    rw [rising_en] at hk
    have hsz : d.size = ns.length := by rw [← Array.length_toList, hk, List.length_map]
    have X := Aside0.mk (And.intro hT2 (And.intro hRow (And.intro hk (And.intro hwf (And.intro hsz (And.intro hlen hB1))))))
    clear hB hT1 hB1 hT2 hris HT c2 hlen hwf hk hsz hRow hP hS
    dsimp only
    go_wp2
    go_loopg [3, 15] ns.length (fun kk v3 v15 wr => ∃ k : Nat, kk = ns.length - k ∧ v15 = .int .i64 k ∧ k ≤ ns.length ∧ Below w1.heap.size w1 wr ∧ Kd.R k39 39 wr w1.heap.size (fun _ => True) v3 (ns.take k))
    case atStart => exact ⟨0, rfl, rfl, Nat.zero_le _, Below.refl _ _, by rw [List.take_zero]; exact Kd.R_nil _ _ _ _ _⟩
    obtain ⟨k, rfl, rfl, hk, hB, hR⟩ := hrel
    have hle := X.out.2.2.2.2.2.1
    by_cases hlt : k < ns.length
    · obtain ⟨x, hx⟩ : ∃ x, ns[k] = x := ⟨_, rfl⟩
      have hdk : d[k]! = x.f0 := by
        have h1 : d.toList[k]? = (ns.map (·.f0))[k]? := by rw [X.out.2.2.1]
        rw [List.getElem?_map, List.getElem?_eq_getElem hlt, Option.map_some, Array.getElem?_toList, hx] at h1
        rw [getElem!_def, h1]
      have hTr := X.out.1.below hB
      have hmem : x ∈ ns := hx ▸ List.getElem_mem hlt
      have L : (Instr.lookup 61 (.map (some g)) (.int .u32 x.f0) false).run Try.prog wr = .ok (nv x) wr := (hTr.found (X.out.2.2.2.1 (en x) (List.mem_map.2 ⟨x, hmem, rfl⟩)) (who_self hTr.map.rising hmem)).2
      have cd := (hB.cell (p := ⟨r, k, none⟩) X.out.2.1.lt).trans (X.out.2.1.cell (j := k) (by have := X.out.2.2.2.2.1; omega))
      rw [hdk] at cd
      have c2 := hTr.set_cells.2.2
      have htake : ns.take (k + 1) = ns.take k ++ [x] := by rw [List.take_add_one, List.getElem?_eq_getElem hlt, hx]; rfl
      have Y := Aside0.mk (And.intro hB (And.intro hR htake))
      obtain ⟨x0, x1, x2⟩ := x
      unfold nv at L
      have e0 : (en ⟨x0, ⟨x1, x2⟩⟩).1 = x0 := rfl
      dsimp only at L cd
      clear hB hR hdk hTr hmem htake hx
      have hlt' : (k : Int) < (d.size : Int) := by have := X.out.2.2.2.2.1; omega
      go_wp2_with (refine Kd.R_append k39 (w0 := w1) w1.heap.size (by rfl) (.tmp 19) (.tmp 26) 29 39 (.agg #[.int .u32 0, .int .i64 0, .int .i64 0]) 24 rfl Try.underlying29 info39 rfl (by decide) (by omega) u3 (ns.take k) ⟨x0, ⟨x1, x2⟩⟩ [.int .u32 x0, .int .i64 x1, .int .i64 x2] (fun _ => True) (fun _ => False) rfl rfl (k39_mkM _ _ _ _) (fun _ h => h.elim) (fun _ _ => trivial) Y.out.2.1 Y.out.1 Y.out.1.size ?hl ?_)
      case hl => rw [List.length_take]; omega
      intro v1 w2 hR2 hB2 hg2 hat2
      rw [← Y.out.2.2] at hR2
      have Z := Aside0.mk (And.intro hR2 hB2)
      clear hR2 hB2 hg2 hat2 cd c2 L
      go_wp2
      go_roundg (ns.length - (k + 1))
      case measure => omega
      case rel => exact ⟨k + 1, rfl, by go_num, by omega, Z.out.2, Z.out.1⟩
    · have hlt' : ¬ (k : Int) < (d.size : Int) := by have := X.out.2.2.2.2.1; omega
      have Y := Aside0.mk (And.intro hB hR)
      have hke : ns.take k = ns := List.take_of_length_le (by omega)
      rw [hke] at Y
      clear hB hR
      go_wp2
      go_ret
      exact ⟨_, rfl, Kd.R_lower Y.out.2 X.out.2.2.2.2.2.2.size, below_step X.out.2.2.2.2.2.2 Y.out.1⟩
end Go.Proofs.Ythibppfdonepoaa.NodeT
