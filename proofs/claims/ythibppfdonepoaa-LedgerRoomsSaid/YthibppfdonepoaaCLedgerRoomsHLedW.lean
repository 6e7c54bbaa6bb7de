/- liverylaw23: acts, great. liverylaw23.LedgerRooms: units that may not be, too many acts. -/
import Derived.Test.YthibppfdonepoaaCLedgerRoomsHLedP
import Derived.Test.YthibppfdonepoaaCLedgerRoomsHLedQ
set_option linter.unusedVariables false
namespace Go.Proofs.Ythibppfdonepoaa.LedT
open Go.RowKit Go.MapKept Go.Maps Go.ChangeMaps Go.Proofs.Ythibppfdonepoaa.XBut Go.Proofs.Ythibppfdonepoaa.XMap Go.Proofs.Ythibppfdonepoaa.NodeT Go.Proofs.YthibppfdonepoaaW.PrintWords Go.Proofs.YthibppfdonepoaaW.PrintLast
/-- An act lies at an address. -/
structure AcAt (w : World) (ad : Addr) (x : Ac) : Prop where
  c0 : w.cell? ad = some (.int .u8 x.what)
  c1 : w.cell? ⟨ad.block, ad.off + 1, none⟩ = some (.int .u32 x.n.f0)
  c2 : w.cell? ⟨ad.block, ad.off + 2, none⟩ = some (.int .i64 x.n.f1.f0)
  c3 : w.cell? ⟨ad.block, ad.off + 3, none⟩ = some (.int .i64 x.n.f1.f1)
  c4 : w.cell? ⟨ad.block, ad.off + 4, none⟩ = some (.int .u32 x.o)
  c5 : w.cell? ⟨ad.block, ad.off + 5, none⟩ = some (.bool x.s)
  c6 : w.cell? ⟨ad.block, ad.off + 6, none⟩ = some (.int .i64 x.many)
theorem AcAt.below {w w' : World} {ad : Addr} {x : Ac} (h : AcAt w ad x) (hb : Below w.heap.size w w') : AcAt w' ad x :=
  ⟨pw_cell_below hb h.c0, pw_cell_below hb h.c1, pw_cell_below hb h.c2, pw_cell_below hb h.c3, pw_cell_below hb h.c4, pw_cell_below hb h.c5, pw_cell_below hb h.c6⟩
/-- A row of acts. -/
structure AcRow (w : World) (A : Option Addr) (l : List Ac) : Prop where
  at_ : ∀ j (h : j < l.length), ∃ ad, A = some ad ∧ AcAt w (ad.add (j * 7)) l[j]
  wf : ∀ x ∈ l, (Lit.int .u8 x.what).wf = true ∧ (Lit.int .u32 x.n.f0).wf = true ∧ (Lit.int .u32 x.o).wf = true ∧ (Lit.int .i64 x.many).wf = true
theorem AcRow.below {w w' : World} {A : Option Addr} {l : List Ac} (h : AcRow w A l) (hb : Below w.heap.size w w') : AcRow w' A l :=
  ⟨fun j hj => by obtain ⟨ad, h1, h2⟩ := h.at_ j hj; exact ⟨ad, h1, h2.below hb⟩, h.wf⟩
/-- Is an act too great? -/
def big (x : Ac) : Bool := decide (200 < x.many) && decide (x.many ≤ 1048576)
def gr (l : List Ac) : Bool := l.any big || decide (80 < l.length)
set_option maxHeartbeats 8000000 in
set_option maxRecDepth 100000 in
theorem great (A : Option Addr) (c : Nat) (l : List Ac) (w : World) (hA : AcRow w A l) (hl : l.length ≤ 9223372036854775807) :
    Calls Try.prog 49 #[.slice A l.length c] w fun e w' => e = .returned (.bool (gr l)) ∧ Below w.heap.size w w' := by
  have hu107 := Try.underlying107
  have H := Aside0.mk (And.intro hA hl)
  clear hA
  go_enter Try.func49, Try.ntmps49
  go_wp2_with fail
  go_loopg [3] l.length (fun kk v3 wr => ∃ j : Nat, kk = l.length - j ∧ v3 = .int .i64 j ∧ j ≤ l.length ∧ Below w.heap.size w wr ∧ ∀ x ∈ l.take j, big x = false)
  case atStart => exact ⟨0, rfl, rfl, Nat.zero_le _, Below.refl _ _, by simp⟩
  obtain ⟨j, rfl, rfl, hj, hB, hno⟩ := hrel
  by_cases hlt : j < l.length
  · obtain ⟨ad, rfl, hAc⟩ := H.out.1.at_ j hlt
    have htk : l.take (j + 1) = l.take j ++ [l[j]] := by rw [List.take_add_one, List.getElem?_eq_getElem hlt]; rfl
    have hmem : l[j] ∈ l := List.getElem_mem hlt
    obtain ⟨x, hx⟩ : ∃ x, l[j] = x := ⟨_, rfl⟩
    rw [hx] at hAc htk hmem
    have d6 := (hAc.below hB).c6
    obtain ⟨m, hm⟩ : ∃ m, x.many = m := ⟨_, rfl⟩
    rw [hm] at d6
    have hlt' : (j : Int) < (l.length : Int) := by omega
    have hjl : (j : Int) + 1 ≤ 9223372036854775807 := by omega
    have X := Aside0.mk (And.intro hB (And.intro hno (And.intro htk (And.intro hmem hm))))
    clear hB hno htk hmem hm hx hAc
    by_cases h1 : (200 : Int) < m
    · have t1 : decide ((200 : Int) < m) = true := decide_eq_true h1
      by_cases h2 : m ≤ 1048576
      · have t2 : decide (m ≤ (1048576 : Int)) = true := decide_eq_true h2
        have G : Aside0 (gr l = true) := ⟨by
          unfold gr
          rw [List.any_eq_true.2 ⟨x, X.out.2.2.2.1, by unfold big; rw [X.out.2.2.2.2, t1, t2]; rfl⟩]
          rfl⟩
        clear h1 h2
        go_wp2
        go_ret
        exact ⟨by rw [G.out]; rfl, X.out.1⟩
      · have t2 : decide (m ≤ (1048576 : Int)) = false := decide_eq_false h2
        have G : Aside0 (big x = false) := ⟨by unfold big; rw [X.out.2.2.2.2, t1, t2]; rfl⟩
        clear h1 h2
        go_wp2
        go_roundg (l.length - (j + 1))
        case measure => omega
        case rel => exact ⟨j + 1, rfl, by go_num, by omega, X.out.1, by rw [X.out.2.2.1]; intro y hy; rcases List.mem_append.1 hy with hy | hy; exact X.out.2.1 y hy; rw [List.mem_singleton.1 hy]; exact G.out⟩
    · have t1 : decide ((200 : Int) < m) = false := decide_eq_false h1
      have G : Aside0 (big x = false) := ⟨by unfold big; rw [X.out.2.2.2.2, t1]; rfl⟩
      clear h1
      go_wp2
      go_roundg (l.length - (j + 1))
      case measure => omega
      case rel => exact ⟨j + 1, rfl, by go_num, by omega, X.out.1, by rw [X.out.2.2.1]; intro y hy; rcases List.mem_append.1 hy with hy | hy; exact X.out.2.1 y hy; rw [List.mem_singleton.1 hy]; exact G.out⟩
  · have hlt' : ¬ (j : Int) < (l.length : Int) := by omega
    have htk : l.take j = l := List.take_of_length_le (by omega)
    rw [htk] at hno
    have G : Aside0 (gr l = decide ((80 : Int) < (l.length : Int))) := ⟨by
      unfold gr
      rw [List.any_eq_false.2 (fun x hx => by rw [hno x hx]; decide), Bool.false_or]
      exact decide_eq_decide.2 (by omega)⟩
    have X := Aside0.mk hB
    clear hB hno htk
    go_wp2
    go_ret
    exact ⟨by rw [G.out]; rfl, X.out⟩
theorem gr_small {l : List Ac} (h : gr l = false) : l.length ≤ 80 ∧ ∀ x ∈ l, big x = false := by
  unfold gr at h
  rw [Bool.or_eq_false_iff] at h
  exact ⟨by have := of_decide_eq_false h.2; omega, fun x hx => by have := List.any_eq_false.1 h.1 x hx; simpa using this⟩
end Go.Proofs.Ythibppfdonepoaa.LedT
set_option linter.unusedVariables false
namespace Go.Proofs.Ythibppfdonepoaa.LedT
open Go.RowKit Go.MapKept Go.Maps Go.ChangeMaps Go.Proofs.Ythibppfdonepoaa.XBut Go.Proofs.Ythibppfdonepoaa.XMap Go.Proofs.Ythibppfdonepoaa.NodeT Go.Proofs.YthibppfdonepoaaW.PrintWords Go.Proofs.YthibppfdonepoaaW.PrintLast
set_option maxHeartbeats 8000000 in
set_option maxRecDepth 100000 in
theorem ledgerRooms_bad (u0 u1 : Int) (A : Option Addr) (n c : Nat) (w : World) (hu : ¬ okV 1 ⟨u0, u1⟩) :
    Calls Try.prog 12 #[.agg #[.int .i64 u0, .int .i64 u1], .slice A n c] w fun e w' => e = .returned (.bool true) ∧ Below w.heap.size w w' := by
  have hu23 := Try.underlying23
  have H := Aside0.mk hu
  clear hu
  go_enter Try.func12, Try.ntmps12
  go_wp2_with fail
  refine (lnew_no u0 u1 _ H.out).mono ?_
  rintro e w1 ⟨rfl, hb1⟩
  have X := Aside0.mk (below_then (below_alloc (Below.refl w.heap.size w) _) (by simp) hb1)
  clear hb1
  dsimp only
  go_wp2_with fail
  refine (head w1).mono ?_
  rintro e w2 ⟨rfl, hb2⟩
  have Y := Aside0.mk hb2
  clear hb2
  dsimp only
  go_wp2
  go_ret
  exact ⟨rfl, below_step X.out Y.out⟩
set_option maxHeartbeats 8000000 in
set_option maxRecDepth 100000 in
theorem ledgerRooms_great (u0 u1 : Int) (A : Option Addr) (c : Nat) (l : List Ac) (w : World) (hA : AcRow w A l) (hl : l.length ≤ 9223372036854775807) (hu : okV 1 ⟨u0, u1⟩) (hg : gr l = true) :
    Calls Try.prog 12 #[.agg #[.int .i64 u0, .int .i64 u1], .slice A l.length c] w fun e w' => e = .returned (.bool true) ∧ Below w.heap.size w w' := by
  have hu23 := Try.underlying23
  have H := Aside0.mk (And.intro hA (And.intro hl (And.intro hu hg)))
  clear hA hl hu hg
  go_enter Try.func12, Try.ntmps12
  go_wp2_with fail
  refine (lnew_yes u0 u1 _ H.out.2.2.1).mono ?_
  rintro e w1 ⟨p, b, g, rfl, hb1, _⟩
  have X := Aside0.mk (below_then (below_alloc (Below.refl w.heap.size w) _) (by simp) hb1)
  clear hb1
  dsimp only
  go_wp2_with fail
  refine (great A c l w1 (H.out.1.below X.out) H.out.2.1).mono ?_
  rintro e w2 ⟨rfl, hb2⟩
  rw [H.out.2.2.2]
  have Y := Aside0.mk (below_step X.out hb2)
  clear hb2
  dsimp only
  go_wp2_with fail
  refine (head w2).mono ?_
  rintro e w3 ⟨rfl, hb3⟩
  have Z := Aside0.mk hb3
  clear hb3
  dsimp only
  go_wp2
  go_ret
  exact ⟨rfl, below_step Y.out Z.out⟩
end Go.Proofs.Ythibppfdonepoaa.LedT
