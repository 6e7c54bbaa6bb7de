/- ledger: nodes that come and go, boxes that are taken; plain. ledger.Ledger: Join, Lose. -/
import Derived.Test.YthibppfdonepoaaCLedgerRoomsHLedI
import Derived.Test.YthibppfdonepoaaCLedgerRoomsHNodeR
set_option linter.unusedVariables false
namespace Go.Proofs.Ythibppfdonepoaa.LedT
open Go.RowKit Go.MapKept Go.Maps Go.ChangeMaps Go.Proofs.Ythibppfdonepoaa.XBut Go.Proofs.Ythibppfdonepoaa.XMap Go.Proofs.Ythibppfdonepoaa.NodeT Go.Proofs.YthibppfdonepoaaW.PrintWords Go.Proofs.YthibppfdonepoaaW.PrintLast
theorem who_ins {ns : List Nd} {x : Nd} {j : Int} (h : j ≠ x.f0) : who (ins ns x) j = who ns j := by
  unfold who
  induction ns with
  | nil =>
    rw [ins, List.find?_cons_of_neg (by simpa using fun e => h e.symm)]
  | cons y l ih =>
    rw [ins]
    split
    · rw [List.find?_cons_of_neg (by simpa using fun e => h e.symm)]
    · split
      · rename_i h1 h2
        rw [List.find?_cons_of_neg (by simpa using fun e => h e.symm), List.find?_cons_of_neg (by simp; omega)]
      · rw [List.find?_cons, List.find?_cons, ih]
theorem room_ins {u0 u1 : Int} {ns : List Nd} {x : Nd} {bx : List Bx} {j : Int} (h : j ≠ x.f0) : roomN u0 u1 (ins ns x) bx j = roomN u0 u1 ns bx j := by
  unfold roomN
  rw [who_ins h]
theorem onN_none {ns : List Nd} {bx : List Bx} {i : Int} (h : ∀ y ∈ bx, (who ns y.f1).isSome = true) (hw : who ns i = none) : onN bx i = [] :=
  List.filter_eq_nil_iff.2 fun y hy e => by
    have := h y hy
    rw [show y.f1 = i by simpa using e, hw] at this
    exact absurd this (by decide)
/-- The nodes behind a node's coming. -/
abbrev nsJ (u0 u1 : Int) (ns : List Nd) (x : Nd) : List Nd := joined (code u0 u1 ns x) ns x
theorem LG.join {u0 u1 : Int} {ns : List Nd} {bx : List Bx} {last : Int} (h : LG u0 u1 ns bx last) (x : Nd) (hx : 0 ≤ x.f0 ∧ x.f0 ≤ 4294967295) : LG u0 u1 (nsJ u0 u1 ns x) bx last := by
  have hg := h.nodes.join x hx
  unfold nsJ
  by_cases hc : code u0 u1 ns x = 0
  · obtain ⟨h1, h2, h3, h4, h5⟩ := code_zero hc
    unfold joined at hg ⊢
    rw [if_pos hc] at hg ⊢
    refine ⟨hg, h.ids, h.num, h.low, h.owner, fun y hy => ?_, fun j => ?_⟩
    · have := h.on y hy
      by_cases e : y.f1 = x.f0
      · rw [e, h4] at this
        exact absurd this (by decide)
      · rw [who_ins e]
        exact this
    · by_cases e : j = x.f0
      · subst e
        rw [room_some (ins_who h4), onN_none h.on h4]
        exact by have := (uns_nonneg h.nodes.unit h2).1; simp; omega
      · rw [room_ins e]
        exact h.room j
  · unfold joined
    rw [if_neg hc]
    exact h
theorem who_lessne {ns : List Nd} {i j : Int} (h : j ≠ i) : who (less ns i) j = who ns j := by
  unfold who less
  rw [List.find?_filter]
  congr 1
  funext x
  by_cases e : x.f0 = j
  · simp [e, h]
  · simp [e]
theorem who_lesseq (ns : List Nd) (i : Int) : who (less ns i) i = none := by
  unfold who less
  refine List.find?_eq_none.2 fun x hx => ?_
  have := (List.mem_filter.1 hx).2
  simpa using this
/-- The boxes that stay where a node goes. -/
def offN (bx : List Bx) (i : Int) : List Bx := bx.filter fun x => !(x.f1 == i)
theorem onN_off {bx : List Bx} {i j : Int} (h : j ≠ i) : onN (offN bx i) j = onN bx j := by
  unfold onN offN
  rw [List.filter_filter]
  congr 1
  funext x
  by_cases e : x.f1 = j
  · simp [e, h]
  · simp [e]
theorem LG.lose {u0 u1 : Int} {ns : List Nd} {bx : List Bx} {last : Int} (h : LG u0 u1 ns bx last) (i : Int) : LG u0 u1 (less ns i) (offN bx i) last := by
  have hs : (offN bx i).Sublist bx := List.filter_sublist
  refine ⟨h.nodes.less i, h.ids.sublist hs, fun y hy => h.num y (hs.subset hy), h.low, fun y hy => h.owner y (hs.subset hy), fun y hy => ?_, fun j => ?_⟩
  · have h1 := h.on y (hs.subset hy)
    have h2 := (List.mem_filter.1 hy).2
    rw [who_lessne (by simpa using h2)]
    exact h1
  · by_cases e : j = i
    · subst e
      rw [room_none (who_lesseq ns j)]
      omega
    · have := h.room j
      unfold roomN at this ⊢
      rw [who_lessne e, onN_off e]
      exact this
/-- Where no such node is, nothing stays behind. -/
theorem off_none {ns : List Nd} {bx : List Bx} {i : Int} (h : ∀ y ∈ bx, (who ns y.f1).isSome = true) (hw : who ns i = none) : offN bx i = bx :=
  List.filter_eq_self.2 fun y hy => by
    have := h y hy
    by_cases e : y.f1 = i
    · rw [e, hw] at this
      exact absurd this (by decide)
    · simpa using e
/-- An owner's boxes. -/
def ownN (bx : List Bx) (o : Int) (s : Bool) : List Bx := bx.filter fun x => x.f2 == o && x.f3 == s
/-- What is taken of an owner: so many of the last. -/
def goneN (bx : List Bx) (o : Int) (s : Bool) (n : Nat) : List Bx := (ownN bx o s).drop ((ownN bx o s).length - n)
instance : DecidableEq Bx := fun a b => decidable_of_iff (a.f0 = b.f0 ∧ a.f1 = b.f1 ∧ a.f2 = b.f2 ∧ a.f3 = b.f3) (by
  obtain ⟨a0, a1, a2, a3⟩ := a
  obtain ⟨b0, b1, b2, b3⟩ := b
  simp)
def leftN (bx gone : List Bx) : List Bx := bx.filter fun x => !decide (x ∈ gone)
/-- What is told of a give: 0 or an error. -/
def gcode (u0 u1 : Int) (ns : List Nd) (bx : List Bx) (o n : Int) : Int := if mayc o n = 2 then 2 else if freeN u0 u1 ns bx < n then 6 else 0
def given (u0 u1 : Int) (ns : List Nd) (bx : List Bx) (last o : Int) (s : Bool) (n : Int) : List Bx := if gcode u0 u1 ns bx o n = 0 then grow u0 u1 ns bx last o s n.toNat else []
def tcode (bx : List Bx) (o : Int) (s : Bool) (n : Int) : Int := if mayc o n = 2 then 2 else if ((ownN bx o s).length : Int) < n then 7 else 0
def taken (bx : List Bx) (o : Int) (s : Bool) (n : Int) : List Bx := if tcode bx o s n = 0 then goneN bx o s n.toNat else []
theorem mayc_zero {o n : Int} (h : mayc o n ≠ 2) : o ≠ 0 ∧ 0 ≤ n ∧ n ≤ 1048576 := by
  unfold mayc at h
  split at h
  · exact absurd rfl h
  · omega
theorem mayc_cases (o n : Int) : mayc o n = 2 ∨ mayc o n = 0 := by
  unfold mayc
  split
  · exact .inl rfl
  · exact .inr rfl
theorem given_len {u0 u1 : Int} {ns : List Nd} {bx : List Bx} {last o : Int} {s : Bool} {n : Int} : (given u0 u1 ns bx last o s n).length = if gcode u0 u1 ns bx o n = 0 then n.toNat else 0 := by
  unfold given
  split
  · exact grow_len ..
  · rfl
theorem LG.give {u0 u1 : Int} {ns : List Nd} {bx : List Bx} {last : Int} (h : LG u0 u1 ns bx last) (o : Int) (s : Bool) (n : Int) : LG u0 u1 ns (bx ++ given u0 u1 ns bx last o s n) (last + (given u0 u1 ns bx last o s n).length) := by
  unfold given
  split
  · rename_i hc
    unfold gcode at hc
    split at hc
    · cases hc
    · rename_i h1
      split at hc
      · cases hc
      · have h2 := mayc_zero h1
        rw [grow_len]
        exact h.grow o s h2.1 n.toNat (by omega)
  · simpa using h
theorem LG.take {u0 u1 : Int} {ns : List Nd} {bx : List Bx} {last : Int} (h : LG u0 u1 ns bx last) (g : List Bx) : LG u0 u1 ns (leftN bx g) last := h.sub List.filter_sublist
theorem left_nil (bx : List Bx) : leftN bx [] = bx := List.filter_eq_self.2 fun y _ => by simp
/-- An act on a ledger: what, the node, the owner, whether spare, how many. -/
structure Ac where
  what : Int
  n : Nd
  o : Int
  s : Bool
  many : Int
def acN (u0 u1 : Int) (ns : List Nd) (x : Ac) : List Nd := if x.what % 6 = 0 then nsJ u0 u1 ns x.n else if x.what % 6 = 1 then less ns x.n.f0 else ns
def acB (u0 u1 : Int) (ns : List Nd) (bx : List Bx) (last : Int) (x : Ac) : List Bx :=
  if x.what % 6 = 0 then bx else if x.what % 6 = 1 then offN bx x.n.f0 else if x.what % 6 = 2 ∨ x.what % 6 = 3 then bx ++ given u0 u1 ns bx last x.o x.s x.many else leftN bx (taken bx x.o x.s x.many)
def acL (u0 u1 : Int) (ns : List Nd) (bx : List Bx) (last : Int) (x : Ac) : Int := if x.what % 6 = 2 ∨ x.what % 6 = 3 then last + (given u0 u1 ns bx last x.o x.s x.many).length else last
theorem LG.act {u0 u1 : Int} {ns : List Nd} {bx : List Bx} {last : Int} (h : LG u0 u1 ns bx last) (x : Ac) (hx : 0 ≤ x.n.f0 ∧ x.n.f0 ≤ 4294967295) : LG u0 u1 (acN u0 u1 ns x) (acB u0 u1 ns bx last x) (acL u0 u1 ns bx last x) := by
  unfold acN acB acL
  by_cases h0 : x.what % 6 = 0
  · rw [if_pos h0, if_pos h0, if_neg (by omega)]
    exact h.join x.n hx
  · rw [if_neg h0, if_neg h0]
    by_cases h1 : x.what % 6 = 1
    · rw [if_pos h1, if_pos h1, if_neg (by omega)]
      exact h.lose x.n.f0
    · rw [if_neg h1, if_neg h1]
      by_cases h2 : x.what % 6 = 2 ∨ x.what % 6 = 3
      · rw [if_pos h2, if_pos h2]
        exact h.give ..
      · rw [if_neg h2, if_neg h2]
        exact h.take _
end Go.Proofs.Ythibppfdonepoaa.LedT
set_option linter.unusedVariables false
set_option linter.unusedSimpArgs false
namespace Go.Proofs.Ythibppfdonepoaa.LedT
open Go.RowKit Go.MapKept Go.Maps Go.ChangeMaps Go.Proofs.Ythibppfdonepoaa.XBut Go.Proofs.Ythibppfdonepoaa.XMap Go.Proofs.Ythibppfdonepoaa.NodeT Go.Proofs.YthibppfdonepoaaW.PrintWords Go.Proofs.YthibppfdonepoaaW.PrintLast
theorem LedAt.lt {w : World} {base p b g : Nat} {u0 u1 : Int} {ns : List Nd} {v : Value} {bx : List Bx} {last : Int} (h : LedAt w base p b g u0 u1 ns v bx last) : p < w.heap.size ∧ b < w.heap.size ∧ g < w.heap.size ∧ ∀ k, v.ownBlock = some k → k < w.heap.size :=
  ⟨blk_lt h.blk, h.tab.lt.1, h.tab.lt.2, fun k hk => Kd.R_lt h.row k hk⟩
/-- The table changed alone. -/
theorem LedAt.tabbed {w w' : World} {base p b g : Nat} {u0 u1 : Int} {ns ns' : List Nd} {v : Value} {bx : List Bx} {last : Int} (h : LedAt w base p b g u0 u1 ns v bx last) (hb : But (fun k => k = g) w w') (hT : TabAt w' base b g u0 u1 ns') : LedAt w' base p b g u0 u1 ns' v bx last :=
  ⟨hT, hb.heap h.blk (fun e => h.ne.2.1 e), Kd.R_step h.row (fun k hk hlt => hb.block k hlt (fun e => (h.own k hk).2.1 e)), h.own, h.ne⟩
/-- Another row of boxes is stored. -/
theorem LedAt.store {w : World} {base p b g N : Nat} {u0 u1 : Int} {ns : List Nd} {v : Value} {bx : List Bx} {last : Int} (h : LedAt w base p b g u0 u1 ns v bx last) {v' : Value} {bx' : List Bx} (hR : RB w N v' bx') (hB : base ≤ N) (ho : ∀ k, v'.ownBlock = some k → k ≠ b ∧ k ≠ g ∧ k ≠ p) : LedAt (w.setCell ⟨p, 1, none⟩ v') base p b g u0 u1 ns v' bx' last := by
  have hb : But (fun k => k = p) w (w.setCell ⟨p, 1, none⟩ v') := (But.refl (fun k => k = p) w).setCell (b := p) rfl 1 v'
  exact ⟨h.tab.but hb (fun e => h.ne.1 e.symm) (fun e => h.ne.2.1 e.symm), by simpa using blk_set h.blk 1 v', Kd.R_lower (Kd.R_step hR (fun k hk hlt => hb.block k hlt (ho k hk).2.2)) hB, ho, h.ne⟩
/-- Another last number is stored. -/
theorem LedAt.number {w : World} {base p b g : Nat} {u0 u1 : Int} {ns : List Nd} {v : Value} {bx : List Bx} {last : Int} (h : LedAt w base p b g u0 u1 ns v bx last) (n : Int) : LedAt (w.setCell ⟨p, 2, none⟩ (.int .u32 n)) base p b g u0 u1 ns v bx n := by
  have hb : But (fun k => k = p) w (w.setCell ⟨p, 2, none⟩ (.int .u32 n)) := (But.refl (fun k => k = p) w).setCell (b := p) rfl 2 _
  exact ⟨h.tab.but hb (fun e => h.ne.1 e.symm) (fun e => h.ne.2.1 e.symm), by simpa using blk_set h.blk 2 (.int .u32 n), Kd.R_step h.row (fun k hk hlt => hb.block k hlt (h.own k hk).2.2), h.own, h.ne⟩
set_option maxHeartbeats 8000000 in
set_option maxRecDepth 100000 in
theorem ljoin {base p b g : Nat} {u0 u1 : Int} {ns : List Nd} {v : Value} {bx : List Bx} {last : Int} (x0 x1 x2 : Int) (w : World) (h : LedAt w base p b g u0 u1 ns v bx last) (hG : NodeT.Good u0 u1 ns) (hx : (Lit.int .u32 x0).wf = true) :
    Calls Try.prog 52 #[.pointer (some ⟨p, 0, none⟩), .agg #[.int .u32 x0, .int .i64 x1, .int .i64 x2]] w fun e w' => e = .returned (.int .i64 (code u0 u1 ns ⟨x0, ⟨x1, x2⟩⟩)) ∧ But (fun k => k = g) w w' ∧ LedAt w' base p b g u0 u1 (nsJ u0 u1 ns ⟨x0, ⟨x1, x2⟩⟩) v bx last := by
  have hu39 := Try.underlying39
  obtain ⟨W0, hW0⟩ : ∃ W0, w.alloc (.cells #[.int .u32 x0, .int .i64 x1, .int .i64 x2] 39) = W0 := ⟨_, rfl⟩
  have hB0 : Below w.heap.size w W0 := by rw [← hW0]; exact below_alloc (Below.refl _ _) _
  have k0 : W0.heap[w.heap.size]? = some (.cells #[.int .u32 x0, .int .i64 x1, .int .i64 x2] 39 (0, 0)) := by rw [← hW0]; exact blk_new w _
  have HW := Aside0.mk hW0
  have ng : w.heap.size ≠ g := by have := h.lt.2.2.1; omega
  obtain ⟨cd, hcd⟩ : ∃ cd, code u0 u1 ns ⟨x0, ⟨x1, x2⟩⟩ = cd := ⟨_, rfl⟩
  have JC := Aside0.mk (fun (w' : World) (hT : TabAt w' base b g u0 u1 ns) => joinC base b g u0 u1 ns ⟨x0, ⟨x1, x2⟩⟩ w' hT hG hx)
  unfold nsJ
  rw [hcd] at JC ⊢
  unfold nv at JC
  have H := Aside0.mk (And.intro (h.below hB0) (And.intro k0 (And.intro hB0 ng)))
  have c0 := (h.below hB0).cells.1
  clear h hG hx hB0 k0 ng hW0 hcd
  go_enter Try.func52, Try.ntmps52
  go_wp2_with fail
  rw [HW.out]
  refine (none_at p _ _ c0).mono ?_
  rintro e wz ⟨rfl, hz⟩
  obtain rfl := hz.symm
  clear hz HW
  simp only [Option.isNone]
  go_upto_region 3 with (fail)
  refine XInv.region_tab [] [[], [0], [1], [2], [], [3, 4], [5, 5, 0, 1, 2, 3, 4, 5]] (fun bq jq => match jq with
      | 0 => .pointer (some ⟨p, 0, none⟩)
      | 1 => .pointer (some ⟨p, 0, none⟩)
      | 2 => .pointer (some ⟨p, 0, none⟩)
      | 3 => .pointer (some ⟨b, 0, none⟩)
      | 4 => .agg #[.int .u32 x0, .int .i64 x1, .int .i64 x2]
      | 5 => .int .i64 cd
      | 6 => .int .i64 cd
      | _ => undef)
      (fun bq l w' => if l 5 = true then (But (fun k => k = g) W0 w' ∧ TabAt w' base b g u0 u1 (joined cd ns ⟨x0, ⟨x1, x2⟩⟩)) else Below W0.heap.size W0 w')
      (by kernel_rfl) rfl (by kernel_rfl) (by kernel_rfl) (by kernel_rfl) ⟨fun _ : Nat => (0 : Nat), (by rw [if_neg (by simp)]; exact below_drew (Below.refl _ _))⟩ ?_ ?_
  · intro i1 hi1 hds oi hoi bq lb w' hW hlb hcl hneed hclo
    have hi1 : i1 < 7 := hi1
    have hcs : i1 = 0 ∨ i1 = 1 ∨ i1 = 2 ∨ i1 = 3 ∨ i1 = 4 ∨ i1 = 5 ∨ i1 = 6 := by omega
    clear hi1
    rcases hcs with rfl | rfl | rfl | rfl | rfl | rfl | rfl
    all_goals simp only [List.getElem?_toArray, List.getElem?_cons_succ, List.getElem?_cons_zero, Option.some.injEq] at hoi
    all_goals subst hoi
    · refine XInv.yes_tab [] (by kernel_rfl) ?_
      have hs0 : lb 5 = false := (Bool.eq_false_or_eq_true (lb 5)).elim (fun h => absurd (hclo 1 0 (by decide) (hclo 2 1 (by decide) (hclo 3 2 (by decide) (hclo 5 3 (by decide) h (by kernel_rfl)) (by kernel_rfl)) (by kernel_rfl)) (by kernel_rfl)) (by rw [hlb]; decide)) id
      rw [if_neg (by rw [hs0]; decide)] at hW
      obtain ⟨c0, c1, c2⟩ := (H.out.1.below hW).cells
      have kn := blk_below H.out.2.1 hW
      have n0 := (blk_cell kn 0).trans rfl
      have n1 := (blk_cell kn 1).trans rfl
      have n2 := (blk_cell kn 2).trans rfl
      clear hcl hneed hclo
      intro Q2 K2 hK2
      simp only [XInv.puts, XPrint.pw]
      go_simp
      exact hK2.out (.pointer (some ⟨p, 0, none⟩)) w' ⟨bq, rfl, (by intros; first | rfl | trivial), (by rw [if_neg (by simp [XInv.up, hs0])]; exact hW)⟩
    · refine XInv.yes_tab [(7, 0)] (by kernel_rfl) ?_
      have hs0 : lb 5 = false := (Bool.eq_false_or_eq_true (lb 5)).elim (fun h => absurd (hclo 2 1 (by decide) (hclo 3 2 (by decide) (hclo 5 3 (by decide) h (by kernel_rfl)) (by kernel_rfl)) (by kernel_rfl)) (by rw [hlb]; decide)) id
      rw [if_neg (by rw [hs0]; decide)] at hW
      obtain ⟨c0, c1, c2⟩ := (H.out.1.below hW).cells
      have kn := blk_below H.out.2.1 hW
      have n0 := (blk_cell kn 0).trans rfl
      have n1 := (blk_cell kn 1).trans rfl
      have n2 := (blk_cell kn 2).trans rfl
      clear hcl hneed hclo
      intro Q2 K2 hK2
      simp only [XInv.puts, XPrint.pw]
      go_simp
      exact hK2.out (.pointer (some ⟨p, 0, none⟩)) w' ⟨bq, rfl, (by intros; first | rfl | trivial), (by rw [if_neg (by simp [XInv.up, hs0])]; exact hW)⟩
    · refine XInv.yes_tab [(8, 1)] (by kernel_rfl) ?_
      have hs0 : lb 5 = false := (Bool.eq_false_or_eq_true (lb 5)).elim (fun h => absurd (hclo 3 2 (by decide) (hclo 5 3 (by decide) h (by kernel_rfl)) (by kernel_rfl)) (by rw [hlb]; decide)) id
      rw [if_neg (by rw [hs0]; decide)] at hW
      obtain ⟨c0, c1, c2⟩ := (H.out.1.below hW).cells
      have kn := blk_below H.out.2.1 hW
      have n0 := (blk_cell kn 0).trans rfl
      have n1 := (blk_cell kn 1).trans rfl
      have n2 := (blk_cell kn 2).trans rfl
      clear hcl hneed hclo
      intro Q2 K2 hK2
      simp only [XInv.puts, XPrint.pw]
      go_simp
      exact hK2.out (.pointer (some ⟨p, 0, none⟩)) w' ⟨bq, rfl, (by intros; first | rfl | trivial), (by rw [if_neg (by simp [XInv.up, hs0])]; exact hW)⟩
    · refine XInv.yes_tab [(9, 2)] (by kernel_rfl) ?_
      have hs0 := hcl 5 (by decide) (by kernel_rfl)
      rw [if_neg (by rw [hs0]; decide)] at hW
      obtain ⟨c0, c1, c2⟩ := (H.out.1.below hW).cells
      have kn := blk_below H.out.2.1 hW
      have n0 := (blk_cell kn 0).trans rfl
      have n1 := (blk_cell kn 1).trans rfl
      have n2 := (blk_cell kn 2).trans rfl
      clear hcl hneed hclo
      intro Q2 K2 hK2
      simp only [XInv.puts, XPrint.pw]
      go_simp
      exact hK2.out (.pointer (some ⟨b, 0, none⟩)) w' ⟨bq, rfl, (by intros; first | rfl | trivial), (by rw [if_neg (by simp [XInv.up, hs0])]; exact hW)⟩
    · refine XInv.yes_tab [] (by kernel_rfl) ?_
      have hs0 := hcl 5 (by decide) (by kernel_rfl)
      rw [if_neg (by rw [hs0]; decide)] at hW
      obtain ⟨c0, c1, c2⟩ := (H.out.1.below hW).cells
      have kn := blk_below H.out.2.1 hW
      have n0 := (blk_cell kn 0).trans rfl
      have n1 := (blk_cell kn 1).trans rfl
      have n2 := (blk_cell kn 2).trans rfl
      clear hcl hneed hclo
      intro Q2 K2 hK2
      simp only [XInv.puts, XPrint.pw]
      go_simp
      exact hK2.out (.agg #[.int .u32 x0, .int .i64 x1, .int .i64 x2]) w' ⟨bq, rfl, (by intros; first | rfl | trivial), (by rw [if_neg (by simp [XInv.up, hs0])]; exact hW)⟩
    · refine XInv.yes_tab [(11, 4), (10, 3)] (by kernel_rfl) ?_
      have hs0 := hlb
      rw [if_neg (by rw [hs0]; decide)] at hW
      obtain ⟨c0, c1, c2⟩ := (H.out.1.below hW).cells
      have kn := blk_below H.out.2.1 hW
      have n0 := (blk_cell kn 0).trans rfl
      have n1 := (blk_cell kn 1).trans rfl
      have n2 := (blk_cell kn 2).trans rfl
      clear hcl hneed hclo
      intro Q2 K2 hK2
      simp only [XInv.puts, XPrint.pw]
      go_simp
      go_at_call 21
      (with_reducible refine (JC.out _ (H.out.1.below hW).tab).mono ?_)
      rintro e wz ⟨rfl, hb, hT2⟩
      exact hK2.out (.int .i64 cd) wz ⟨bq, rfl, (by intros; first | rfl | trivial), (by rw [if_pos (by simp [XInv.up, hs0])]; exact ⟨(But.of_below hW).trans hb, hT2⟩)⟩
    · refine XInv.yes_tab [(12, 5), (11, 4), (10, 3), (9, 2), (8, 1), (7, 0)] (by kernel_rfl) ?_
      have hs0 := hneed 5 (by kernel_rfl)
      rw [if_pos hs0] at hW
      clear hcl hneed hclo
      intro Q2 K2 hK2
      simp only [XInv.puts, XPrint.pw] at hK2 ⊢
      go_simp
      exact hK2.out (.int .i64 cd) w' ⟨bq, rfl, (by intros; first | rfl | trivial), (by rw [if_pos (by simp [XInv.up, hs0])]; exact hW)⟩
  · intro bq w' hW
    refine XInv.end_nil [(4, 6), (12, 5), (11, 4), (10, 3), (9, 2), (8, 1), (7, 0)] (by kernel_rfl) (by kernel_rfl) ?_
    simp only [XInv.puts, XPrint.pw]
    rw [if_pos (by kernel_rfl)] at hW
    have X := Aside0.mk hW
    clear hW
    go_wp2
    go_ret
    exact ⟨rfl, (But.of_below H.out.2.2.1).trans X.out.1, H.out.1.tabbed X.out.1 X.out.2⟩
/-- Lose's third region: the call and a box, either first. -/
structure LW (base b g : Nat) (u0 u1 : Int) (ns : List Nd) (i : Int) (W0 : World) (bq : Nat) (l : Nat → Bool) (w' : World) : Prop where
  but : But (fun k => k = g) W0 w'
  tab0 : l 5 = false → TabAt w' base b g u0 u1 ns
  tab1 : l 5 = true → TabAt w' base b g u0 u1 (less ns i)
  blk : l 9 = true → l 10 = false → W0.heap.size ≤ bq ∧ ∃ a0 a1 a2, w'.heap[bq]? = some (.cells #[a0, a1, a2] 39 (0, 0))
theorem LW.up {base b g : Nat} {u0 u1 : Int} {ns : List Nd} {i : Int} {W0 w' : World} {bq : Nat} {l : Nat → Bool} (h : LW base b g u0 u1 ns i W0 bq l w') (j : Nat) (hj : j ≠ 5 ∧ j ≠ 9) : LW base b g u0 u1 ns i W0 bq (XInv.up l j) w' := by
  have e : ∀ k, k ≠ j → XInv.up l j k = l k := fun k hk => by unfold XInv.up; rw [if_neg hk]
  refine ⟨h.but, fun h5 => h.tab0 ?_, fun h5 => h.tab1 ?_, fun h9 h10 => h.blk ?_ ?_⟩
  · rwa [e 5 (by omega)] at h5
  · rwa [e 5 (by omega)] at h5
  · rwa [e 9 (by omega)] at h9
  · by_cases hk : 10 = j
    · subst hk
      simp [XInv.up] at h10
    · rwa [e 10 hk] at h10
theorem LW.s5 {base b g : Nat} {u0 u1 : Int} {ns : List Nd} {i : Int} {W0 w' w1 : World} {bq : Nat} {l : Nat → Bool} (h : LW base b g u0 u1 ns i W0 bq l w') (hg : g < W0.heap.size) (hb : But (fun k => k = g) w' w1) (hT : TabAt w1 base b g u0 u1 (less ns i)) : LW base b g u0 u1 ns i W0 bq (XInv.up l 5) w1 := by
  refine ⟨h.but.trans hb, fun h5 => ?_, fun _ => hT, fun h9 h10 => ?_⟩
  · simp [XInv.up] at h5
  · simp [XInv.up] at h9 h10
    obtain ⟨h1, a0, a1, a2, h2⟩ := h.blk h9 h10
    exact ⟨h1, a0, a1, a2, hb.heap h2 (by omega)⟩
theorem LW.s9 {base b g : Nat} {u0 u1 : Int} {ns : List Nd} {i : Int} {W0 w' w1 : World} {bq : Nat} {l : Nat → Bool} (h : LW base b g u0 u1 ns i W0 bq l w') (o0 o1 o2 : Value) (hw : w1 = w'.alloc (.cells #[o0, o1, o2] 39)) : LW base b g u0 u1 ns i W0 w'.heap.size (XInv.up l 9) w1 := by
  subst hw
  have hb : Below w'.heap.size w' (w'.alloc (.cells #[o0, o1, o2] 39)) := below_alloc (Below.refl _ _) _
  refine ⟨h.but.alloc _, fun h5 => ?_, fun h5 => ?_, fun _ _ => ⟨h.but.size, o0, o1, o2, blk_new w' _⟩⟩
  · simp [XInv.up] at h5
    exact (h.tab0 h5).below hb
  · simp [XInv.up] at h5
    exact (h.tab1 h5).below hb
theorem LW.s10 {base b g : Nat} {u0 u1 : Int} {ns : List Nd} {i : Int} {W0 w' w1 : World} {bq : Nat} {l : Nat → Bool} (h : LW base b g u0 u1 ns i W0 bq l w') (h5 : l 5 = true) (h9 : l 9 = true) (h10 : l 10 = false) (hb : b < W0.heap.size) (hg : g < W0.heap.size) (o0 o1 o2 : Value) (hw : w1 = ((w'.setCell ⟨bq, 0, none⟩ o0).setCell ⟨bq, 1, none⟩ o1).setCell ⟨bq, 2, none⟩ o2) : LW base b g u0 u1 ns i W0 bq (XInv.up l 10) w1 := by
  obtain ⟨h1, a0, a1, a2, h2⟩ := h.blk h9 h10
  have k : But (fun k => k = bq) w' w1 := by
    rw [hw]
    exact (((But.refl (fun k => k = bq) w').setCell (b := bq) rfl 0 _).setCell (b := bq) rfl 1 _).setCell (b := bq) rfl 2 _
  have k2 : But (fun k => k = g) W0 w1 := by
    rw [hw]
    exact but_new (but_new (but_new h.but h1 0 _) h1 1 _) h1 2 _
  refine ⟨k2, fun e => ?_, fun _ => (h.tab1 h5).but k (by omega) (by omega), fun _ e => ?_⟩
  · simp [XInv.up] at e
    rw [h5] at e
    cases e
  · simp [XInv.up] at e
set_option maxHeartbeats 8000000 in
set_option maxRecDepth 100000 in
theorem llose {base p b g : Nat} {u0 u1 : Int} {ns : List Nd} {v : Value} {bx : List Bx} {last : Int} (i : Int) (w : World) (h : LedAt w base p b g u0 u1 ns v bx last) (hG : LG u0 u1 ns bx last) (hl : bx.length ≤ 1000000) (hi : (Lit.int .u32 i).wf = true) :
    Calls Try.prog 53 #[.pointer (some ⟨p, 0, none⟩), .int .u32 i] w fun e w' => ∃ vo v', e = .returned (.tuple #[vo, .int .i64 (lost ns i).2]) ∧ LedAt w' base p b g u0 u1 (less ns i) v' (offN bx i) last ∧ RB w' w.heap.size vo (onN bx i) ∧ (∀ k, vo.ownBlock = some k → v'.ownBlock ≠ some k) ∧ But (fun k => k = p ∨ k = g) w w' ∧ (∀ k, v'.ownBlock = some k → v.ownBlock = some k ∨ w.heap.size ≤ k) := by
  have hu39 := Try.underlying39
  have hlt := h.lt
  obtain ⟨A, c, rfl⟩ := Kd.R_slice h.row
  obtain ⟨W0, hW0⟩ : ∃ W0, w.alloc (.cells #[.int .u32 i] 37) = W0 := ⟨_, rfl⟩
  have hB0 : Below w.heap.size w W0 := by rw [← hW0]; exact below_alloc (Below.refl _ _) _
  have k0 : W0.heap[w.heap.size]? = some (.cells #[.int .u32 i] 37 (0, 0)) := by rw [← hW0]; exact blk_new w _
  have HW := Aside0.mk hW0
  have hs0 := hB0.size
  have ng : w.heap.size ≠ g ∧ p ≠ g := by have := h.ne.2.1; omega
  have LC := Aside0.mk (fun (w' : World) (hT : TabAt w' base b g u0 u1 ns) => loseC base b g u0 u1 i ns w' hT hi)
  have LE : Aside0 ((lost ns i).2 = 0 ∨ (lost ns i).2 = 7 ∧ who ns i = none) := ⟨by
    unfold lost
    cases who ns i
    · exact .inr ⟨rfl, rfl⟩
    · exact .inl rfl⟩
  obtain ⟨lx, lc⟩ : ∃ _ : Unit, True := ⟨(), trivial⟩
  obtain ⟨z, hz⟩ : ∃ z, lost ns i = z := ⟨_, rfl⟩
  rw [hz] at LC LE ⊢
  obtain ⟨⟨y0, y1, y2⟩, lc⟩ := z
  unfold nv at LC
  have H := Aside0.mk (And.intro (h.below hB0) (And.intro k0 (And.intro hB0 (And.intro ng (And.intro hlt (And.intro hG hl))))))
  have c0 := (h.below hB0).cells.1
  have hWB := W0.heap.size
  dsimp only at LC LE ⊢
  clear h hG hl hi hB0 k0 ng hW0 hlt hz hs0 lx
  go_enter Try.func53, Try.ntmps53
  go_wp2_with fail
  rw [HW.out]
  refine (none_at p _ _ c0).mono ?_
  rintro e wz ⟨rfl, hz⟩
  obtain rfl := hz.symm
  clear hz HW
  simp only [Option.isNone]
  go_upto_region 3 with (fail)
  refine XInv.region_tab [] [[], [0], [1], [2], [], [3, 4], [5], [6], [6], [], [9, 7, 5, 0, 1, 2, 3, 4, 5, 6, 7, 9], [8, 10, 0, 1, 2, 3, 4, 5, 6, 7, 8, 9, 10]] (fun bq jq => match jq with
      | 0 => .pointer (some ⟨p, 0, none⟩)
      | 1 => .pointer (some ⟨p, 0, none⟩)
      | 2 => .pointer (some ⟨p, 0, none⟩)
      | 3 => .pointer (some ⟨b, 0, none⟩)
      | 4 => .int .u32 i
      | 5 => .tuple #[.agg #[.int .u32 y0, .int .i64 y1, .int .i64 y2], .int .i64 lc]
      | 6 => .tuple #[.agg #[.int .u32 y0, .int .i64 y1, .int .i64 y2], .int .i64 lc]
      | 7 => .agg #[.int .u32 y0, .int .i64 y1, .int .i64 y2]
      | 8 => .int .i64 lc
      | 9 => .pointer (some ⟨bq, 0, none⟩)
      | 10 => undef
      | 11 => .int .i64 lc
      | _ => undef)
      (fun bq l w' => LW base b g u0 u1 ns i W0 bq l w')
      (by kernel_rfl) rfl (by kernel_rfl) (by kernel_rfl) (by kernel_rfl) ⟨(0 : Nat), ⟨But.of_below (below_drew (Below.refl _ _)), fun _ => H.out.1.tab.below (below_drew (Below.refl _ _)), fun h => (by cases h), fun h => (by cases h)⟩⟩ ?_ ?_
  · intro i1 hi1 hds oi hoi bq lb w' hW hlb hcl hneed hclo
    have hi1 : i1 < 12 := hi1
    have hcs : i1 = 0 ∨ i1 = 1 ∨ i1 = 2 ∨ i1 = 3 ∨ i1 = 4 ∨ i1 = 5 ∨ i1 = 6 ∨ i1 = 7 ∨ i1 = 8 ∨ i1 = 9 ∨ i1 = 10 ∨ i1 = 11 := by omega
    clear hi1
    obtain ⟨c0, c1, c2⟩ := H.out.1.cells
    have hP := hW.but.heap H.out.1.blk H.out.2.2.2.1.2
    have c0 := (blk_cell hP 0).trans rfl
    have kn := hW.but.heap H.out.2.1 H.out.2.2.2.1.1
    have n0 := (blk_cell kn 0).trans rfl
    rcases hcs with rfl | rfl | rfl | rfl | rfl | rfl | rfl | rfl | rfl | rfl | rfl | rfl
    all_goals simp only [List.getElem?_toArray, List.getElem?_cons_succ, List.getElem?_cons_zero, Option.some.injEq] at hoi
    all_goals subst hoi
    · refine XInv.yes_tab [] (by kernel_rfl) ?_
      obtain ⟨c0, c1, c2⟩ := H.out.1.cells
      have hP := hW.but.heap H.out.1.blk H.out.2.2.2.1.2
      have c0 := (blk_cell hP 0).trans rfl
      have kn := hW.but.heap H.out.2.1 H.out.2.2.2.1.1
      have n0 := (blk_cell kn 0).trans rfl
      intro Q2 K2 hK2
      simp only [XInv.puts, XPrint.pw]
      go_simp
      exact hK2.out (.pointer (some ⟨p, 0, none⟩)) w' ⟨bq, rfl, (by intros; first | rfl | trivial), hW.up 0 (by decide)⟩
    · refine XInv.yes_tab [(13, 0)] (by kernel_rfl) ?_
      obtain ⟨c0, c1, c2⟩ := H.out.1.cells
      have hP := hW.but.heap H.out.1.blk H.out.2.2.2.1.2
      have c0 := (blk_cell hP 0).trans rfl
      have kn := hW.but.heap H.out.2.1 H.out.2.2.2.1.1
      have n0 := (blk_cell kn 0).trans rfl
      intro Q2 K2 hK2
      simp only [XInv.puts, XPrint.pw]
      go_simp
      exact hK2.out (.pointer (some ⟨p, 0, none⟩)) w' ⟨bq, rfl, (by intros; first | rfl | trivial), hW.up 1 (by decide)⟩
    · refine XInv.yes_tab [(14, 1)] (by kernel_rfl) ?_
      obtain ⟨c0, c1, c2⟩ := H.out.1.cells
      have hP := hW.but.heap H.out.1.blk H.out.2.2.2.1.2
      have c0 := (blk_cell hP 0).trans rfl
      have kn := hW.but.heap H.out.2.1 H.out.2.2.2.1.1
      have n0 := (blk_cell kn 0).trans rfl
      intro Q2 K2 hK2
      simp only [XInv.puts, XPrint.pw]
      go_simp
      exact hK2.out (.pointer (some ⟨p, 0, none⟩)) w' ⟨bq, rfl, (by intros; first | rfl | trivial), hW.up 2 (by decide)⟩
    · refine XInv.yes_tab [(15, 2)] (by kernel_rfl) ?_
      obtain ⟨c0, c1, c2⟩ := H.out.1.cells
      have hP := hW.but.heap H.out.1.blk H.out.2.2.2.1.2
      have c0 := (blk_cell hP 0).trans rfl
      have kn := hW.but.heap H.out.2.1 H.out.2.2.2.1.1
      have n0 := (blk_cell kn 0).trans rfl
      intro Q2 K2 hK2
      simp only [XInv.puts, XPrint.pw]
      go_simp
      exact hK2.out (.pointer (some ⟨b, 0, none⟩)) w' ⟨bq, rfl, (by intros; first | rfl | trivial), hW.up 3 (by decide)⟩
    · refine XInv.yes_tab [] (by kernel_rfl) ?_
      obtain ⟨c0, c1, c2⟩ := H.out.1.cells
      have hP := hW.but.heap H.out.1.blk H.out.2.2.2.1.2
      have c0 := (blk_cell hP 0).trans rfl
      have kn := hW.but.heap H.out.2.1 H.out.2.2.2.1.1
      have n0 := (blk_cell kn 0).trans rfl
      intro Q2 K2 hK2
      simp only [XInv.puts, XPrint.pw]
      go_simp
      exact hK2.out (.int .u32 i) w' ⟨bq, rfl, (by intros; first | rfl | trivial), hW.up 4 (by decide)⟩
    · refine XInv.yes_tab [(17, 4), (16, 3)] (by kernel_rfl) ?_
      obtain ⟨c0, c1, c2⟩ := H.out.1.cells
      have hP := hW.but.heap H.out.1.blk H.out.2.2.2.1.2
      have c0 := (blk_cell hP 0).trans rfl
      have kn := hW.but.heap H.out.2.1 H.out.2.2.2.1.1
      have n0 := (blk_cell kn 0).trans rfl
      obtain ⟨c0, c1, c2⟩ := H.out.1.cells
      have hP := hW.but.heap H.out.1.blk H.out.2.2.2.1.2
      have c0 := (blk_cell hP 0).trans rfl
      have kn := hW.but.heap H.out.2.1 H.out.2.2.2.1.1
      have n0 := (blk_cell kn 0).trans rfl
      intro Q2 K2 hK2
      simp only [XInv.puts, XPrint.pw] at hK2 ⊢
      go_simp
      go_at_call 20
      (with_reducible refine (LC.out _ (hW.tab0 hlb)).mono ?_)
      rintro e wz ⟨rfl, hb, hT2⟩
      exact hK2.out (.tuple #[.agg #[.int .u32 y0, .int .i64 y1, .int .i64 y2], .int .i64 lc]) wz ⟨bq, rfl, (by intros; first | rfl | trivial), hW.s5 H.out.1.lt.2.2.1 hb hT2⟩
    · refine XInv.yes_tab [(18, 5)] (by kernel_rfl) ?_
      obtain ⟨c0, c1, c2⟩ := H.out.1.cells
      have hP := hW.but.heap H.out.1.blk H.out.2.2.2.1.2
      have c0 := (blk_cell hP 0).trans rfl
      have kn := hW.but.heap H.out.2.1 H.out.2.2.2.1.1
      have n0 := (blk_cell kn 0).trans rfl
      intro Q2 K2 hK2
      simp only [XInv.puts, XPrint.pw]
      go_simp
      exact hK2.out (.tuple #[.agg #[.int .u32 y0, .int .i64 y1, .int .i64 y2], .int .i64 lc]) w' ⟨bq, rfl, (by intros; first | rfl | trivial), hW.up 6 (by decide)⟩
    · refine XInv.yes_tab [(12, 6)] (by kernel_rfl) ?_
      obtain ⟨c0, c1, c2⟩ := H.out.1.cells
      have hP := hW.but.heap H.out.1.blk H.out.2.2.2.1.2
      have c0 := (blk_cell hP 0).trans rfl
      have kn := hW.but.heap H.out.2.1 H.out.2.2.2.1.1
      have n0 := (blk_cell kn 0).trans rfl
      intro Q2 K2 hK2
      simp only [XInv.puts, XPrint.pw]
      go_simp
      exact hK2.out (.agg #[.int .u32 y0, .int .i64 y1, .int .i64 y2]) w' ⟨bq, rfl, (by intros; first | rfl | trivial), hW.up 7 (by decide)⟩
    · refine XInv.yes_tab [(12, 6)] (by kernel_rfl) ?_
      obtain ⟨c0, c1, c2⟩ := H.out.1.cells
      have hP := hW.but.heap H.out.1.blk H.out.2.2.2.1.2
      have c0 := (blk_cell hP 0).trans rfl
      have kn := hW.but.heap H.out.2.1 H.out.2.2.2.1.1
      have n0 := (blk_cell kn 0).trans rfl
      intro Q2 K2 hK2
      simp only [XInv.puts, XPrint.pw]
      go_simp
      exact hK2.out (.int .i64 lc) w' ⟨bq, rfl, (by intros; first | rfl | trivial), hW.up 8 (by decide)⟩
    · refine XInv.yes_tab [] (by kernel_rfl) ?_
      obtain ⟨c0, c1, c2⟩ := H.out.1.cells
      have hP := hW.but.heap H.out.1.blk H.out.2.2.2.1.2
      have c0 := (blk_cell hP 0).trans rfl
      have kn := hW.but.heap H.out.2.1 H.out.2.2.2.1.1
      have n0 := (blk_cell kn 0).trans rfl
      intro Q2 K2 hK2
      simp only [XInv.puts, XPrint.pw]
      go_simp
      exact hK2.out (.pointer (some ⟨w'.heap.size, 0, none⟩)) _ ⟨w'.heap.size, rfl, (by intro jj hjj hlj; have hjj : jj < 12 := hjj; rcases (by omega : jj = 0 ∨ jj = 1 ∨ jj = 2 ∨ jj = 3 ∨ jj = 4 ∨ jj = 5 ∨ jj = 6 ∨ jj = 7 ∨ jj = 8 ∨ jj = 9 ∨ jj = 10 ∨ jj = 11) with rfl | rfl | rfl | rfl | rfl | rfl | rfl | rfl | rfl | rfl | rfl | rfl <;> first | rfl | (rw [hlb] at hlj; cases hlj)), hW.s9 _ _ _ rfl⟩
    · refine XInv.yes_tab [(6, 9), (19, 7), (12, 6), (18, 5), (17, 4), (16, 3), (15, 2), (14, 1), (13, 0)] (by kernel_rfl) ?_
      obtain ⟨c0, c1, c2⟩ := H.out.1.cells
      have hP := hW.but.heap H.out.1.blk H.out.2.2.2.1.2
      have c0 := (blk_cell hP 0).trans rfl
      have kn := hW.but.heap H.out.2.1 H.out.2.2.2.1.1
      have n0 := (blk_cell kn 0).trans rfl
      have h5 := hneed 5 (by kernel_rfl)
      have h9 := hneed 9 (by kernel_rfl)
      obtain ⟨hq, a0, a1, a2, hk⟩ := hW.blk h9 hlb
      have d0 := (blk_cell hk 0).trans rfl
      have d1 := (blk_cell hk 1).trans rfl
      have d2 := (blk_cell hk 2).trans rfl
      have f0 := blk_frozen hk 0
      have f1 := blk_frozen hk 1
      have f2 := blk_frozen hk 2
      intro Q2 K2 hK2
      simp only [XInv.puts, XPrint.pw] at hK2 ⊢
      go_simp
      exact hK2.out undef _ ⟨bq, rfl, (by intros; first | rfl | trivial), hW.s10 h5 h9 hlb H.out.1.lt.2.1 H.out.1.lt.2.2.1 _ _ _ rfl⟩
    · refine XInv.yes_tab [(6, 9), (20, 8), (19, 7), (12, 6), (18, 5), (17, 4), (16, 3), (15, 2), (14, 1), (13, 0)] (by kernel_rfl) ?_
      obtain ⟨c0, c1, c2⟩ := H.out.1.cells
      have hP := hW.but.heap H.out.1.blk H.out.2.2.2.1.2
      have c0 := (blk_cell hP 0).trans rfl
      have kn := hW.but.heap H.out.2.1 H.out.2.2.2.1.1
      have n0 := (blk_cell kn 0).trans rfl
      intro Q2 K2 hK2
      simp only [XInv.puts, XPrint.pw] at hK2 ⊢
      go_simp
      exact hK2.out (.int .i64 lc) w' ⟨bq, rfl, (by intros; first | rfl | trivial), hW.up 11 (by decide)⟩
  · intro bq w' hW
    refine XInv.end_nil [(7, 11), (6, 9), (20, 8), (19, 7), (12, 6), (18, 5), (17, 4), (16, 3), (15, 2), (14, 1), (13, 0)] (by kernel_rfl) (by kernel_rfl) ?_
    simp only [XInv.puts, XPrint.pw]
    have X := Aside0.mk hW
    have b1 := hW.but
    have t1 := hW.tab1 (by kernel_rfl)
    have L1 : LedAt w' base p b g u0 u1 (less ns i) (.slice A bx.length c) bx last := H.out.1.tabbed b1 t1
    have K1 := b1.heap H.out.2.1 H.out.2.2.2.1.1
    have hBw : But (fun k => k = g) w w' := (But.of_below H.out.2.2.1).trans b1
    obtain ⟨w2, hw2⟩ : ∃ w2, w' = w2 := ⟨_, rfl⟩
    rw [hw2] at L1 K1 hBw ⊢
    have c1 := L1.cells.2.1
    have hsz := hBw.size
    clear hW b1 t1 X hw2
    rcases LE.out with hlc | ⟨hlc, hno⟩
    · have Y := Aside0.mk (And.intro L1 (And.intro K1 hBw))
      have hlc' : Aside0 (lc = 0) := ⟨hlc⟩
      have t0 : (lc != 0) = false := by simp [hlc]
      have PK := Aside0.mk (picked 105 (.pointer (some ⟨w.heap.size, 0, none⟩)) (fun x => x.f1 == i) bx A c w2 (Kd.R_reads' L1.row).2.2 H.out.2.2.2.2.2.2 (fun _ _ => rfl) (fun y hy wy hwy => lose1 y w.heap.size i wy ((blk_cell (blk_below K1 hwy) 0).trans rfl)))
      clear L1 K1 hBw hlc
      go_wp2_with fail
      refine PK.out.mono ?_
      rintro e w3 ⟨v1, v2, rfl, hR1, hR2, hd, hb⟩
      have c1 := pw_cell_below hb c1
      have k1 := blk_below Y.out.1.blk hb
      have f1 := blk_frozen k1 1
      have Z := Aside0.mk (And.intro hR1 (And.intro hR2 (And.intro hd (And.intro hb k1))))
      obtain ⟨A1, n1, e1⟩ := Kd.R_slice hR1
      obtain ⟨A2, n2, e2⟩ := Kd.R_slice hR2
      obtain ⟨m1, hm1⟩ : ∃ m1, (bx.filter fun x => x.f1 == i).length = m1 := ⟨_, rfl⟩
      obtain ⟨m2, hm2⟩ : ∃ m2, (bx.filter fun x => !(x.f1 == i)).length = m2 := ⟨_, rfl⟩
      rw [hm1] at e1
      rw [hm2] at e2
      subst e1
      subst e2
      clear hR1 hR2 hd hb k1 hm1 hm2
      dsimp only
      go_wp2
      go_ret2
      have hs3 := Z.out.2.2.2.1.size
      have hlow : ∀ k, (Value.slice A2 m2 n2).ownBlock = some k → w2.heap.size ≤ k := fun k hk => Kd.R_base Z.out.2.1 k hk
      have hlow1 : ∀ k, (Value.slice A1 m1 n1).ownBlock = some k → w2.heap.size ≤ k := fun k hk => Kd.R_base Z.out.1 k hk
      have hlt := Y.out.1.lt
      have hne := Y.out.1.ne
      have hbp : But (fun k => k = p) w3 (w3.setCell ⟨p, 1, none⟩ (.slice A2 m2 n2)) := (But.refl (fun k => k = p) w3).setCell (b := p) rfl 1 _
      refine ⟨_, _, by rw [hlc'.out]; rfl, (Y.out.1.below Z.out.2.2.2.1).store Z.out.2.1 (by omega) (fun k hk => by have := hlow k hk; omega), Kd.R_lower (Kd.R_step Z.out.1 (fun k hk hlt => hbp.block k hlt (by have := hlow1 k hk; omega))) hsz, Z.out.2.2.1, ((Y.out.2.2.mono (fun k h => .inr h)).trans (But.of_below Z.out.2.2.2.1)).trans (hbp.mono fun k h => .inl h), fun k hk => .inr (by have := hlow k hk; omega)⟩
    · have t0 : (lc != 0) = true := by simp [hlc]
      have hl2 : Aside0 (lc = 7) := ⟨hlc⟩
      have N := Aside0.mk hno
      have Y := Aside0.mk (And.intro L1 (And.intro K1 hBw))
      clear L1 K1 hBw hlc hno
      go_wp2
      go_ret2
      refine ⟨_, _, rfl, ?_, ?_, fun k hk => by simp [Value.ownBlock] at hk, Y.out.2.2.mono fun k h => .inr h, fun k hk => .inl hk⟩
      · rw [off_none H.out.2.2.2.2.2.1.on N.out]
        exact Y.out.1
      · rw [onN_none H.out.2.2.2.2.2.1.on N.out]
        exact Kd.R_nil _ _ _ _ _
end Go.Proofs.Ythibppfdonepoaa.LedT
