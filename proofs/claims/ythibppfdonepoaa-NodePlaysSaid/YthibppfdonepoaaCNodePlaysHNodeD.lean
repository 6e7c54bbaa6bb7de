/- node.Table: Join. -/
import Derived.Test.YthibppfdonepoaaCNodePlaysHNodeC
set_option linter.unusedVariables false
namespace Go.Proofs.Ythibppfdonepoaa.NodeT
open Go.RowKit Go.MapKept Go.Maps Go.ChangeMaps Go.Proofs.Ythibppfdonepoaa.XBut Go.Proofs.Ythibppfdonepoaa.XMap Go.Proofs.Ythibppfdonepoaa.PNodePlays Go.Proofs.YthibppfdonepoaaW.PrintWords Go.Proofs.YthibppfdonepoaaW.PrintLast
theorem TabAt.asked {w : World} {base b g : Nat} {u0 u1 k : Int} {ns : List S39} (hT : TabAt w base b g u0 u1 ns) (hk : (Lit.int .u32 k).wf = true) :
    ∃ y0 y1 y2, ∀ w', TabAt w' base b g u0 u1 ns → (Instr.lookup 61 (.map (some g)) (.int .u32 k) true).run Try.prog w' = .ok (.tuple #[.agg #[.int .u32 y0, .int .i64 y1, .int .i64 y2], .bool (who ns k).isSome]) w' := by
  cases h : who ns k with
  | none => exact ⟨_, _, _, fun w' hT' => hT'.lost hk h⟩
  | some x => exact ⟨x.f0, x.f1.f0, x.f1.f1, fun w' hT' => (hT'.found hk h).1⟩
/-- A node set in its place. -/
def ins : List S39 → S39 → List S39
  | [], x => [x]
  | y :: l, x => if x.f0 < y.f0 then x :: y :: l else if x.f0 = y.f0 then x :: l else y :: ins l x
theorem put_en (ns : List S39) (x : S39) : put (ns.map en) x.f0 (nv x) = (ins ns x).map en := by
  induction ns with
  | nil => rfl
  | cons y l ih =>
    rw [List.map_cons]
    unfold put ins
    have e : (en y).1 = y.f0 := rfl
    rw [e, ih]
    split
    · rfl
    · split <;> rfl
theorem TabAt.count {w : World} {base b g : Nat} {u0 u1 : Int} {ns : List S39} (hT : TabAt w base b g u0 u1 ns) (hl : ns.length < 9223372036854775808) (ty : TypeId) :
    (Builtin.len_ #[61] ty #[.map (some g)]).run Try.prog w = .ok (.int .i64 ns.length) w := by
  obtain ⟨es, clock, hb, F⟩ := hT.map
  have hs := F.size
  rw [List.length_map] at hs
  have h := run_len_map (P := Try.prog) w 61 ty g es clock (by kernel_rfl) hb
  rw [hs] at h
  refine h.trans ?_
  simp only [goInt]
  try rfl
/-- What Join answers. -/
def joins (n : Int) (t : Bool) (q : Int) (isb : Bool) (len : Nat) : Int := if n = 0 then 2 else if t = false then 2 else if 4096 < q then 2 else if isb = true then 8 else if 32 ≤ len then 6 else 0
def joined (c : Int) (ns : List S39) (x : S39) : List S39 := if c = 0 then ins ns x else ns
set_option maxHeartbeats 8000000 in
set_option maxRecDepth 100000 in
theorem join (base b g : Nat) (u0 u1 n n0 n1 : Int) (ns : List S39) (w : World) (hT : TabAt w base b g u0 u1 ns) (hi : (Lit.int .u32 n).wf = true) (hlen : ns.length ≤ 1000000) (k : Nat) (t : Bool) (q z : Int) (h1 : n ≠ 0 → node_in.f n0 n1 0 = some t) (h2 : n ≠ 0 → t = true → vec_Units.f k n0 n1 u0 u1 = some (q, z)) :
    Calls Try.prog 21 #[.pointer (some ⟨b, 0, none⟩), .agg #[.int .u32 n, .int .i64 n0, .int .i64 n1]] w fun e w' =>
      e = .returned (.int .i64 (joins n t q (who ns n).isSome ns.length)) ∧ But (fun k => k = g) w w' ∧ TabAt w' base b g u0 u1 (joined (joins n t q (who ns n).isSome ns.length) ns ⟨n, ⟨n0, n1⟩⟩) := by
  have hl := hT.lt.1
  obtain ⟨c0, c1, c2⟩ := hT.set_cells
  obtain ⟨y0, y1, y2, hL⟩ := hT.asked hi
  have hu39 := Try.underlying39
  obtain ⟨W0, hW0⟩ : ∃ W0, W0 = w.alloc (Obj.cells #[.int .u32 n, .int .i64 n0, .int .i64 n1] 39) := ⟨_, rfl⟩
  have hB0 : Below w.heap.size w W0 := by rw [hW0]; exact below_alloc (Below.refl _ _) _
  have hT0 := hT.below hB0
  have kn : W0.heap[w.heap.size]? = some (.cells #[.int .u32 n, .int .i64 n0, .int .i64 n1] 39 (0, 0)) := by rw [hW0]; exact blk_new w _
  have KL : ∀ w', Below W0.heap.size W0 w' → w'.cell? ⟨b, 2, none⟩ = some (.map (some g)) ∧ w'.cell? ⟨w.heap.size, 0, none⟩ = some (.int .u32 n) ∧ (Instr.lookup 61 (.map (some g)) (.int .u32 n) true).run Try.prog w' = .ok (.tuple #[.agg #[.int .u32 y0, .int .i64 y1, .int .i64 y2], .bool (who ns n).isSome]) w' := fun w' h =>
    ⟨(hT0.below h).set_cells.2.2, (blk_cell (blk_below kn h) 0).trans rfl, hL _ (hT0.below h)⟩
  obtain ⟨isb, hisb⟩ : ∃ isb, (who ns n).isSome = isb := ⟨_, rfl⟩
  rw [hisb] at KL
  rw [hisb]
  have hlg := hT.lt.2
  have KEEP := Aside0.mk (And.intro hT (And.intro hlen (And.intro hT0 (And.intro kn (And.intro h1 (And.intro h2 hlg))))))
  clear hT hT0 hL kn hisb h1 h2 hlen hlg
  have c2' := (KL W0 (Below.refl _ _)).1
  rw [hW0] at c2' KL
  go_enter Try.func21, Try.ntmps21
  go_wp2_with fail
  refine (none_map b (some g) _ c2').mono ?_
  rintro e w1 ⟨rfl, rfl⟩
  simp only [Option.isNone]
  go_upto_region 3 with (fail)
  go_region_held3? (fun w' => w'.cell? ⟨b, 2, none⟩ = some (.map (some g)) ∧ w'.cell? ⟨w.heap.size, 0, none⟩ = some (.int .u32 n) ∧ (Instr.lookup 61 (.map (some g)) (.int .u32 n) true).run Try.prog w' = .ok (.tuple #[.agg #[.int .u32 y0, .int .i64 y1, .int .i64 y2], .bool isb]) w')
    (first | exact KL _ (below_drew (Below.refl _ _)) | exact KL _ (below_alloc (below_drew (Below.refl _ _)) _) | go_keep) (fail)
  all_goals
    obtain ⟨W3, hW3⟩ : ∃ W3, ((w.alloc (Obj.cells #[.int .u32 n, .int .i64 n0, .int .i64 n1] 39)).alloc (Obj.cells #[.int .u32 y0, .int .i64 y1, .int .i64 y2] 39)).drew = W3 := ⟨_, rfl⟩
    rw [hW3]
    obtain ⟨hT, hlen, hT0, kn, h1, h2, hlg⟩ := KEEP.out
    rw [hW0] at hT0 kn
    have hB3 := below_drew (below_alloc (Below.refl _ (w.alloc (Obj.cells #[.int .u32 n, .int .i64 n0, .int .i64 n1] 39))) (Obj.cells #[.int .u32 y0, .int .i64 y1, .int .i64 y2] 39))
    rw [hW3] at hB3
    have hT3 := hT0.below hB3
    have kn3 := blk_below kn hB3
    have hB4 : Below w.heap.size w W3 := below_then (below_alloc (Below.refl _ _) _) (by simp) hB3
    have n0c := (blk_cell kn3 0).trans rfl
    have n1c := (blk_cell kn3 1).trans rfl
    have n2c := (blk_cell kn3 2).trans rfl
    have tc := hT3.set_cells.2.2
    have HH := Aside0.mk (And.intro hT3 (And.intro kn3 (And.intro hB4 (And.intro h1 (And.intro h2 (And.intro hlg hlen))))))
    have LEN := hT3.count (by omega) 3
    clear KEEP KL hB0 c0 c1 c2 c2' hW0 hW3 hT hT0 hlen kn h1 h2 hB3 hT3 kn3 hB4
    by_cases hn : n = 0
    · have hnb : (n == 0) = true := by simp [hn]
      have E : Aside0 (joins n t q isb ns.length = 2) := ⟨by simp [joins, hn]⟩
      clear hn
      go_wp2
      go_ret
      obtain ⟨hT3, kn3, hB4, _⟩ := HH.out
      exact ⟨by rw [E.out]; rfl, But.of_below hB4, by rw [E.out]; exact hT3⟩
    · have hnb : (n == 0) = false := by simp [hn]
      cases t with
      | false =>
        have E : Aside0 (joins n false q isb ns.length = 2) := ⟨by simp [joins, hn]⟩
        have H1 := Aside0.mk (HH.out.2.2.2.1 hn)
        clear hn
        go_wp2_with fail
        refine (node_in.calls n0 n1 0 false _ H1.out).mono ?_
        rintro e w4 ⟨rfl, hb⟩
        have HB := Aside0.mk hb
        clear hb
        dsimp only
        go_wp2
        go_ret
        obtain ⟨hT3, kn3, hB4, _⟩ := HH.out
        exact ⟨by rw [E.out]; rfl, But.of_below (below_step hB4 HB.out), by rw [E.out]; exact hT3.below HB.out⟩
      | true =>
        have H1 := Aside0.mk (HH.out.2.2.2.1 hn)
        have H2 := Aside0.mk (HH.out.2.2.2.2.1 hn rfl)
        go_wp2_with fail
        refine (node_in.calls n0 n1 0 true _ H1.out).mono ?_
        rintro e w4 ⟨rfl, hb⟩
        obtain ⟨hT3, kn3, hB4, h1, h2, hlg, hlen⟩ := HH.out
        have HB := Aside0.mk hb
        have hT4 := hT3.below hb
        have kn4 := blk_below kn3 hb
        have n0c := (blk_cell kn4 0).trans rfl
        have n1c := (blk_cell kn4 1).trans rfl
        have n2c := (blk_cell kn4 2).trans rfl
        clear hb hT3 kn3 hB4 h1 h2 hlg hlen LEN
        dsimp only
        go_wp2_with fail
        refine (bears k base b g u0 u1 ns ⟨n, ⟨n0, n1⟩⟩ q z _ hT4 H2.out).mono ?_
        rintro e w5 ⟨rfl, hb⟩
        have hT5 := hT4.below hb
        have kn5 := blk_below kn4 hb
        have n0c := (blk_cell kn5 0).trans rfl
        have n1c := (blk_cell kn5 1).trans rfl
        have n2c := (blk_cell kn5 2).trans rfl
        have tc := hT5.set_cells.2.2
        have HB5 := Aside0.mk (below_step HB.out hb)
        have LEN := hT5.count (by have := HH.out.2.2.2.2.2.2; omega) 3
        have HT5 := Aside0.mk (And.intro hT5 kn5)
        clear hb hT4 kn4 hT5 kn5
        dsimp only
        have hlen := HH.out.2.2.2.2.2.2
        have hlg := HH.out.2.2.2.2.2.1
        have hlen2 : (ns.length : Int) ≤ 1000000 := by omega
        by_cases hq : 4096 < q
        · have hqb : decide (4096 < q) = true := decide_eq_true hq
          have E : Aside0 (joins n true q isb ns.length = 2) := ⟨by simp [joins, hn, hq]⟩
          clear hn hq
          go_wp2
          go_ret
          exact ⟨by rw [E.out]; rfl, But.of_below (below_step HH.out.2.2.1 HB5.out), by rw [E.out]; exact HT5.out.1⟩
        · have hqb : decide (4096 < q) = false := decide_eq_false hq
          cases isb with
          | true =>
            have E : Aside0 (joins n true q true ns.length = 8) := ⟨by simp [joins, hn, hq]⟩
            clear hn hq
            go_wp2
            go_ret
            exact ⟨by rw [E.out]; rfl, But.of_below (below_step HH.out.2.2.1 HB5.out), by rw [E.out]; exact HT5.out.1⟩
          | false =>
            by_cases hf : (32 : Int) ≤ ns.length
            · have hfb : decide ((32 : Int) ≤ ns.length) = true := decide_eq_true hf
              have E : Aside0 (joins n true q false ns.length = 6) := ⟨by simp [joins, hn, hq, (show 32 ≤ ns.length by omega)]⟩
              clear hn hq
              go_wp2
              go_ret
              exact ⟨by rw [E.out]; rfl, But.of_below (below_step HH.out.2.2.1 HB5.out), by rw [E.out]; exact HT5.out.1⟩
            · have hfb : decide ((32 : Int) ≤ ns.length) = false := decide_eq_false hf
              have E : Aside0 (joins n true q false ns.length = 0) := ⟨by simp [joins, hn, hq, (show ¬ 32 ≤ ns.length by omega)]⟩
              clear hn hq
              go_upto_region 10 with (fail)
              obtain ⟨o, MU, hM⟩ := HT5.out.1.map.drew.store (t := 61) Try.underlying61 Try.underlying37 hi (by rw [List.length_map]; unfold maxLen; omega) (.agg #[.int .u32 n, .int .i64 n0, .int .i64 n1])
              obtain ⟨W6, hW6⟩ : ∃ W6, setBlock w5.drew g o = W6 := ⟨_, rfl⟩
              have b1 : But (fun k => k = g) w5.drew (setBlock w5.drew g o) := But.put1 _ _ _
              rw [hW6] at MU hM b1
              have R := Aside0.mk (And.intro hM b1)
              clear hM b1 hW6
              go_still_tail 7, (by kernel_rfl)
              change wpList _ _ _ _ _ w5.drew
              have tc' : w5.drew.cell? ⟨b, 2, none⟩ = some (.map (some g)) := tc
              have n0c' : w5.drew.cell? ⟨w.heap.size, 0, none⟩ = some (.int .u32 n) := n0c
              have n1c' : w5.drew.cell? ⟨w.heap.size, 1, none⟩ = some (.int .i64 n0) := n1c
              have n2c' : w5.drew.cell? ⟨w.heap.size, 2, none⟩ = some (.int .i64 n1) := n2c
              go_wp2
              go_ret
              have hT5 := HT5.out.1
              have hM : MapAt W6 .u32 g ((ins ns ⟨n, ⟨n0, n1⟩⟩).map en) := by rw [← put_en]; exact R.out.1
              refine ⟨by rw [E.out]; rfl, ((But.of_below (below_step HH.out.2.2.1 HB5.out)).drew).trans R.out.2, ?_⟩
              rw [E.out]
              exact ⟨R.out.2.heap (show w5.drew.heap[b]? = _ from hT5.blk) hT5.ne, hM, hT5.base1, hT5.base2⟩
end Go.Proofs.Ythibppfdonepoaa.NodeT
