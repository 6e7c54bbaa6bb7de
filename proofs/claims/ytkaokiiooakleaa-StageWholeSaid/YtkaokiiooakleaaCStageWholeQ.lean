/- The statement StageWhole over numbers and lists alone: of every input. No condition but that numbers are of their kind. -/
import Derived.Test.YtkaokiiooakleaaCStageWhole0
import Derived.Test.YtkaokiiooakleaaCStageWhole1
import Derived.Test.YtkaokiiooakleaaCStageWhole10
import Derived.Test.YtkaokiiooakleaaCStageWhole11
import Derived.Test.YtkaokiiooakleaaCStageWhole12
import Derived.Test.YtkaokiiooakleaaCStageWhole2
import Derived.Test.YtkaokiiooakleaaCStageWhole3
import Derived.Test.YtkaokiiooakleaaCStageWhole4
import Derived.Test.YtkaokiiooakleaaCStageWhole5
import Derived.Test.YtkaokiiooakleaaCStageWhole6
import Derived.Test.YtkaokiiooakleaaCStageWhole7
import Derived.Test.YtkaokiiooakleaaCStageWhole8
import Derived.Test.YtkaokiiooakleaaCStageWhole9
import Derived.Test.YtkaokiiooakleaaCStageWholeW
set_option linter.unusedVariables false
namespace Go.Proofs.Ytkaokiiooakleaa.PStageWhole
open Go.RowKit Go.Proofs.YtkaokiiooakleaaW.PrintWords Go.Proofs.YtkaokiiooakleaaW.PrintLast Go.Proofs.YtkaokiiooakleaaW.PrintMore
section
/-! #### stages: what check tells, and where windows end -/
def totS : List Int → Int
  | [] => 0
  | n :: r => n + totS r
def sumW : Int → List Int → Int
  | s, [] => s
  | s, n :: r => sumW (wrap64 (s + n)) r
def badL (x : Int) : Bool := decide (x < 1) || decide (x > 4096)
def farB (x : Int) : Bool := decide (x < -1099511627776) || decide (x > 1099511627776)
theorem w64 {x : Int} (h1 : -9223372036854775808 ≤ x) (h2 : x ≤ 9223372036854775807) : wrap64 x = x := by
  unfold wrap64
  omega
theorem far_f (x : Int) : stage_far.f x = some (farB x) := by
  unfold stage_far.f farB
  split
  · rename_i h; rw [decide_eq_true h]; rfl
  · rename_i h; rw [decide_eq_false h]; rfl
def chkFin (F T s : Int) (b : Bool) : Int × Int := if b = true then (0, 2) else if (farB F || farB T) = true then (0, 10) else (s, 0)
def chkB (F T : Int) (l : List Int) : Bool := decide ((l.length : Int) = 0) || (decide ((l.length : Int) > 16) || (decide (F ≥ T) || decide (IntKind.u64.wrap (wrap64 (T - F)) > 4096)))
def checkR (F T : Int) (l : List Int) : Int × Int := chkFin F T (sumW 0 l) (chkB F T l || l.any badL)
theorem rd_nat {l : List Int} {i : Nat} (h : i < l.length) : rd l (i : Int) = l[i] := by
  unfold rd
  rw [show ((i : Nat) : Int).toNat = i from rfl, List.getD_eq_getElem?_getD, List.getElem?_eq_getElem h]
  rfl
theorem check_loop (l : List Int) (F T : Int) (hl : l.length ≤ 9223372036854775807) : ∀ (n i : Nat) (s : Int) (b : Bool), l.length - i = n → i ≤ l.length →
    Ev (fun k => stage_check.l0 k s b l (l.length : Int) (i : Int) F T) (chkFin F T (sumW s (l.drop i)) (b || (l.drop i).any badL)) := by
  intro n
  induction n with
  | zero =>
    intro i s b hn hi
    rw [List.drop_eq_nil_of_le (by omega)]
    refine ⟨1, fun k hk => ?_⟩
    obtain ⟨k, rfl⟩ : ∃ k', k = k' + 1 := ⟨k - 1, by omega⟩
    show stage_check.l0 (k + 1) s b l (l.length : Int) (i : Int) F T = _
    rw [stage_check.l0, if_neg (by omega)]
    cases b with
    | true => rfl
    | false =>
      rw [if_neg (by decide), far_f, far_f, Option.bind_some]
      unfold chkFin
      cases farB F with
      | true => rfl
      | false =>
        cases farB T with
        | true => rfl
        | false => rfl
  | succ n ih =>
    intro i s b hn hi
    have hi' : i < l.length := by omega
    rw [List.drop_eq_getElem_cons hi']
    have hx := rd_nat hi'
    have e1 : wrap64 ((i : Int) + 1) = ((i + 1 : Nat) : Int) := by unfold wrap64; omega
    cases b with
    | true =>
      have := ih (i + 1) (wrap64 (s + l[i])) true (by omega) hi'
      refine Ev.step (fun k => ?_) this
      show stage_check.l0 (k + 1) s true l (l.length : Int) (i : Int) F T = _
      rw [stage_check.l0, if_pos (by omega), if_pos (by omega), if_pos (by omega), if_pos rfl, hx, e1]
    | false =>
      by_cases hb : l[i] < 1
      · have := ih (i + 1) (wrap64 (s + l[i])) true (by omega) hi'
        have e2 : (false || (l[i] :: l.drop (i + 1)).any badL) = (true || (l.drop (i + 1)).any badL) := by
          rw [List.any_cons, show badL l[i] = true by unfold badL; rw [decide_eq_true hb]; rfl]
          rfl
        rw [e2]
        refine Ev.step (fun k => ?_) this
        show stage_check.l0 (k + 1) s false l (l.length : Int) (i : Int) F T = _
        rw [stage_check.l0, if_pos (by omega), if_pos (by omega), if_pos (by omega), if_neg (by decide), hx, if_pos hb, e1]
      · have := ih (i + 1) (wrap64 (s + l[i])) (decide (l[i] > 4096)) (by omega) hi'
        have e2 : (false || (l[i] :: l.drop (i + 1)).any badL) = (decide (l[i] > 4096) || (l.drop (i + 1)).any badL) := by
          rw [List.any_cons, show badL l[i] = decide (l[i] > 4096) by unfold badL; rw [decide_eq_false hb]; rfl]
          rfl
        rw [e2]
        refine Ev.step (fun k => ?_) this
        show stage_check.l0 (k + 1) s false l (l.length : Int) (i : Int) F T = _
        rw [stage_check.l0, if_pos (by omega), if_pos (by omega), if_pos (by omega), if_neg (by decide), hx, if_neg hb, e1]
theorem check_ev (F T : Int) (l : List Int) (hl : l.length ≤ 9223372036854775807) : Ev (fun k => stage_check.f k F T l) (checkR F T l) := by
  have key : ∀ b, Ev (fun k => stage_check.j0 k l 0 b F T) (chkFin F T (sumW 0 l) (b || l.any badL)) := fun b => by
    have := check_loop l F T hl l.length 0 0 b (by omega) (by omega)
    exact Ev.step (fun k => by rw [stage_check.j0]; rfl) this
  unfold checkR chkB
  by_cases h1 : (l.length : Int) = 0
  · rw [decide_eq_true h1, Bool.true_or]
    refine Ev.congr (fun k => ?_) (key true)
    unfold stage_check.f
    rw [if_pos h1]
  · rw [decide_eq_false h1, Bool.false_or]
    by_cases h2 : (l.length : Int) > 16
    · rw [decide_eq_true h2, Bool.true_or]
      refine Ev.congr (fun k => ?_) (key true)
      unfold stage_check.f
      rw [if_neg h1, if_pos h2]
    · rw [decide_eq_false h2, Bool.false_or]
      by_cases h3 : F ≥ T
      · rw [decide_eq_true h3, Bool.true_or]
        refine Ev.congr (fun k => ?_) (key true)
        unfold stage_check.f
        rw [if_neg h1, if_neg h2, if_pos h3]
      · rw [decide_eq_false h3, Bool.false_or]
        refine Ev.congr (fun k => ?_) (key _)
        unfold stage_check.f
        rw [if_neg h1, if_neg h2, if_neg h3]
theorem tot_bound : ∀ (l : List Int), (∀ x ∈ l, 1 ≤ x ∧ x ≤ 4096) → (l.length : Int) ≤ totS l ∧ totS l ≤ 4096 * (l.length : Int)
  | [], _ => by simp [totS]
  | x :: r, h => by
    have h1 := h x (by simp)
    have h2 := tot_bound r (fun y hy => h y (by simp [hy]))
    simp only [totS, List.length_cons]
    omega
theorem sumW_tot : ∀ (l : List Int) (s : Int), (∀ x ∈ l, 1 ≤ x ∧ x ≤ 4096) → 0 ≤ s → s + 4096 * (l.length : Int) ≤ 1000000 → sumW s l = s + totS l
  | [], s, _, _, _ => by simp [sumW, totS]
  | x :: r, s, h, h0, hs => by
    have h1 := h x (by simp)
    simp only [List.length_cons] at hs
    have e1 : wrap64 (s + x) = s + x := by unfold wrap64; omega
    rw [sumW, e1, sumW_tot r (s + x) (fun y hy => h y (by simp [hy])) (by omega) (by omega)]
    simp only [totS]
    omega
/-- What a good window and good stages are. -/
structure GoodS (F T : Int) (l : List Int) : Prop where
  n1 : 1 ≤ l.length
  n2 : l.length ≤ 16
  lt : F < T
  len : T - F ≤ 4096
  f1 : -1099511627776 ≤ F
  f2 : F ≤ 1099511627776
  t1 : -1099511627776 ≤ T
  t2 : T ≤ 1099511627776
  each : ∀ x ∈ l, 1 ≤ x ∧ x ≤ 4096
theorem check_ok {F T : Int} {l : List Int} (hF : -9223372036854775808 ≤ F ∧ F ≤ 9223372036854775807) (hT : -9223372036854775808 ≤ T ∧ T ≤ 9223372036854775807) (h : (checkR F T l).2 = 0) : GoodS F T l ∧ checkR F T l = (totS l, 0) := by
  have h0 : ¬ (chkB F T l || l.any badL) = true := fun hb => by unfold checkR chkFin at h; rw [if_pos hb] at h; cases h
  have h1 : ¬ (farB F || farB T) = true := fun hb => by unfold checkR chkFin at h; rw [if_neg h0, if_pos hb] at h; cases h
  have h2 : checkR F T l = (sumW 0 l, 0) := by unfold checkR chkFin; rw [if_neg h0, if_neg h1]
  simp only [chkB, farB, Bool.or_eq_true, decide_eq_true_eq, not_or, List.any_eq_true, not_exists] at h0 h1
  obtain ⟨⟨a1, a2, a3, a4⟩, a5⟩ := h0
  obtain ⟨⟨b1, b2⟩, b3, b4⟩ := h1
  have a6 : ∀ x ∈ l, 1 ≤ x ∧ x ≤ 4096 := fun x hx => by
    have := a5 x
    simp only [badL, Bool.or_eq_true, decide_eq_true_eq, not_and, not_or] at this
    have := this hx
    omega
  have a7 : IntKind.u64.wrap (wrap64 (T - F)) = T - F := by
    have e : IntKind.u64.wrap (wrap64 (T - F)) = (wrap64 (T - F)) % 18446744073709551616 := rfl
    rw [e]
    unfold wrap64
    omega
  rw [a7] at a4
  refine ⟨⟨by omega, by omega, by omega, by omega, by omega, by omega, by omega, by omega, a6⟩, ?_⟩
  rw [h2, sumW_tot l 0 a6 (by omega) (by omega)]
  simp
theorem chk_snd (F T : Int) (l : List Int) : (checkR F T l).2 = 0 ∨ (checkR F T l).2 = 2 ∨ (checkR F T l).2 = 10 := by
  unfold checkR chkFin
  split
  · exact .inr (.inl rfl)
  · split
    · exact .inr (.inr rfl)
    · exact .inl rfl
theorem slack_ev (F T : Int) (l : List Int) (hl : l.length ≤ 9223372036854775807) : Ev (fun k => stage_Slack.f k F T l) (if (checkR F T l).2 = 0 then (wrap64 (wrap64 (T - F) - (checkR F T l).1), 0) else (0, (checkR F T l).2)) := by
  obtain ⟨n, g⟩ := check_ev F T l hl
  refine ⟨n, fun k hk => ?_⟩
  have := g k hk
  dsimp only at this
  show stage_Slack.f k F T l = _
  unfold stage_Slack.f
  rw [this, Option.bind_some]
  split <;> rfl
theorem split_ev (F T : Int) (l : List Int) (hl : l.length ≤ 9223372036854775807) (q : Int) {r : List S71 × Int} (hr : St.splitR F T l q (checkR F T l).1 (checkR F T l).2 = some r) : Ev (fun k => stage_Split.f k F T l q) r := by
  obtain ⟨n, g⟩ := check_ev F T l hl
  refine ⟨n, fun k hk => ?_⟩
  have := g k hk
  dsimp only at this
  show stage_Split.f k F T l q = _
  unfold stage_Split.f
  rw [this, Option.bind_some]
  exact hr
/-! the windows -/
def slk (q : Nat) (s : Int) (i m : Nat) (p a : Int) : Int := match q with
  | 0 => if i = 0 then 0 else s
  | 1 => if i = m then s else 0
  | _ => s * p / a
def endS (q : Nat) (F s : Int) (l : List Int) (i : Nat) : Int := F + totS (l.take i) + slk q s i l.length (totS (l.take i)) (totS l)
theorem tot_take {l : List Int} {i : Nat} (h : i < l.length) : totS (l.take (i + 1)) = totS (l.take i) + l[i] := by
  induction l generalizing i with
  | nil => simp at h
  | cons x r ih =>
    cases i with
    | zero => simp [totS]
    | succ i =>
      have := ih (i := i) (by simpa using h)
      simp only [List.take_succ_cons, totS, List.getElem_cons_succ, this]
      omega
theorem tot_le {l : List Int} (h : ∀ x ∈ l, 1 ≤ x ∧ x ≤ 4096) (i : Nat) : 0 ≤ totS (l.take i) ∧ totS (l.take i) ≤ totS l := by
  have h1 := (tot_bound (l.take i) (fun x hx => h x (List.mem_of_mem_take hx))).1
  refine ⟨by omega, ?_⟩
  have h2 := (tot_bound (l.drop i) (fun x hx => h x (List.mem_of_mem_drop hx))).1
  have app : ∀ a b : List Int, totS (a ++ b) = totS a + totS b := by
    intro a b
    induction a with
    | nil => simp [totS]
    | cons x r ih => simp only [List.cons_append, totS, ih]; omega
  have := app (l.take i) (l.drop i)
  rw [List.take_append_drop] at this
  omega
structure GoodW (F s : Int) (l : List Int) : Prop where
  n1 : 1 ≤ l.length
  n2 : l.length ≤ 16
  f1 : -1099511627776 ≤ F
  f2 : F ≤ 1099511627776
  s1 : 0 ≤ s
  s2 : s ≤ 4096
  each : ∀ x ∈ l, 1 ≤ x ∧ x ≤ 4096
theorem GoodW.tot {F s : Int} {l : List Int} (g : GoodW F s l) : 1 ≤ totS l ∧ totS l ≤ 65536 := by
  have := tot_bound l g.each
  have := g.n1
  have := g.n2
  omega
theorem share {F s : Int} {l : List Int} (g : GoodW F s l) (i : Nat) : 0 ≤ s * totS (l.take i) ∧ s * totS (l.take i) ≤ 268435456 ∧ 0 ≤ s * totS (l.take i) / totS l ∧ s * totS (l.take i) / totS l ≤ s := by
  have ht := tot_le g.each i
  have hT := g.tot
  have h1 := g.s1
  have h2 := g.s2
  have p1 : 0 ≤ s * totS (l.take i) := Int.mul_nonneg h1 ht.1
  have p2 : s * totS (l.take i) ≤ 4096 * 65536 := Int.mul_le_mul h2 (by omega) ht.1 (by omega)
  refine ⟨p1, by omega, Int.ediv_nonneg p1 (by omega), ?_⟩
  have p3 : s * totS (l.take i) ≤ s * totS l := Int.mul_le_mul_of_nonneg_left ht.2 h1
  have p4 := Int.ediv_le_ediv (show 0 < totS l by omega) p3
  rw [Int.mul_ediv_cancel _ (by omega)] at p4
  exact p4
theorem slk_step {F s : Int} {l : List Int} (g : GoodW F s l) (q : Nat) (hq : q ≤ 2) (i : Nat) (hi : i < l.length) :
    St.slackOf q s ((i + 1 : Nat) : Int) (l.length : Int) (totS (l.take (i + 1))) (totS l) = slk q s (i + 1) l.length (totS (l.take (i + 1))) (totS l) ∧ 0 ≤ slk q s (i + 1) l.length (totS (l.take (i + 1))) (totS l) ∧ slk q s (i + 1) l.length (totS (l.take (i + 1))) (totS l) ≤ s := by
  have h1 := g.s1
  obtain rfl | rfl | rfl : q = 0 ∨ q = 1 ∨ q = 2 := by omega
  · simp [St.slackOf, slk, h1]
  · simp only [St.slackOf, slk]
    by_cases h : i + 1 = l.length
    · rw [if_pos h, if_pos (by omega)]; exact ⟨rfl, h1, Int.le_refl _⟩
    · rw [if_neg h, if_neg (by omega)]; exact ⟨rfl, Int.le_refl _, h1⟩
  · have := share g (i + 1)
    have hT := g.tot
    simp only [St.slackOf, slk]
    have e1 : wrap64 (s * totS (l.take (i + 1))) = s * totS (l.take (i + 1)) := by unfold wrap64; omega
    rw [e1, Int.tdiv_eq_ediv_of_nonneg this.1]
    have := g.s2
    exact ⟨by unfold wrap64; omega, by omega, by omega⟩
theorem wins_list {F s : Int} {l : List Int} (g : GoodW F s l) (q : Nat) (hq : q ≤ 2) : ∀ (n i : Nat), l.length - i = n → i ≤ l.length →
    St.winsS q F s (l.length : Int) (totS l) (l.drop i) (i : Int) (totS (l.take i)) (endS q F s l i) = (List.range' i n).map fun j => (endS q F s l j, endS q F s l (j + 1)) := by
  intro n
  induction n with
  | zero =>
    intro i hn hi
    rw [List.drop_eq_nil_of_le (by omega)]
    rfl
  | succ n ih =>
    intro i hn hi
    have hi' : i < l.length := by omega
    rw [List.drop_eq_getElem_cons hi', St.winsS, List.range'_succ, List.map_cons]
    have h1 := g.f1
    have h2 := g.f2
    have h3 := g.tot
    have h4 := tot_le g.each (i + 1)
    have h5 := tot_take hi'
    have h6 := g.n2
    have h7 := g.s2
    obtain ⟨k1, k2, k3⟩ := slk_step g q hq i hi'
    have e1 : wrap64 ((i : Int) + 1) = ((i + 1 : Nat) : Int) := by unfold wrap64; omega
    have e2 : wrap64 (totS (l.take i) + l[i]) = totS (l.take (i + 1)) := by rw [← h5]; unfold wrap64; omega
    rw [e1, e2, k1]
    have e3 : wrap64 (wrap64 (F + totS (l.take (i + 1))) + slk q s (i + 1) l.length (totS (l.take (i + 1))) (totS l)) = endS q F s l (i + 1) := by
      unfold endS
      generalize slk q s (i + 1) l.length (totS (l.take (i + 1))) (totS l) = z at k2 k3 ⊢
      generalize totS (l.take (i + 1)) = y at h4 ⊢
      clear ih k1 e1 e2 h5
      rw [w64 (x := F + y) (by omega) (by omega), w64 (by omega) (by omega)]
    have hn' : l.length - (i + 1) = n := by clear k1 k2 k3 e1 e2 e3 h1 h2 h3 h4 h5 h6 h7 ih g; omega
    rw [e3, ih (i + 1) hn' hi']
/-- The windows. -/
def winL (q : Nat) (F s : Int) (l : List Int) : List S71 := (List.range' 0 l.length).map fun j => ⟨endS q F s l j, endS q F s l (j + 1)⟩
theorem end0 {F s : Int} {l : List Int} (g : GoodW F s l) (q : Nat) (hq : q ≤ 2) : endS q F s l 0 = F := by
  have := g.n1
  obtain rfl | rfl | rfl : q = 0 ∨ q = 1 ∨ q = 2 := by omega
  · simp [endS, slk, totS]
  · simp only [endS, slk, List.take_zero, totS]
    rw [if_neg (by omega)]
    omega
  · simp [endS, slk, totS]
theorem endm {F s : Int} {l : List Int} (g : GoodW F s l) (q : Nat) (hq : q ≤ 2) : endS q F s l l.length = F + totS l + s := by
  have h1 := g.n1
  have h2 := g.tot
  unfold endS
  rw [List.take_length]
  obtain rfl | rfl | rfl : q = 0 ∨ q = 1 ∨ q = 2 := by omega
  · simp only [slk]
    rw [if_neg (by omega)]
  · simp [slk]
  · simp only [slk]
    rw [Int.mul_ediv_cancel _ (by omega)]
theorem split_good {F T : Int} {l : List Int} (hF : -9223372036854775808 ≤ F ∧ F ≤ 9223372036854775807) (hT : -9223372036854775808 ≤ T ∧ T ≤ 9223372036854775807) (h : (checkR F T l).2 = 0) (q : Nat) (hq : q ≤ 2) :
    St.splitR F T l (q : Int) (checkR F T l).1 (checkR F T l).2 = some (if T - F < totS l then ([], 210) else (winL q F (T - F - totS l) l, 0)) := by
  obtain ⟨g, hc⟩ := check_ok hF hT h
  rw [hc]
  have h1 := g.n1; have h2 := g.n2; have h3 := g.lt; have h4 := g.len
  have h5 := tot_bound l g.each
  have e1 : wrap64 (T - F) = T - F := by unfold wrap64; omega
  unfold St.splitR
  dsimp only
  rw [if_neg (by decide), if_neg (by omega), if_neg (by decide), e1]
  by_cases hs : T - F < totS l
  · rw [if_pos (by omega), if_pos hs]
  · have g2 : GoodW F (T - F - totS l) l := ⟨h1, h2, g.f1, g.f2, by omega, by omega, g.each⟩
    have e2 : wrap64 (T - F - totS l) = T - F - totS l := by unfold wrap64; omega
    rw [if_neg (by omega), if_neg hs, if_pos ⟨by omega, by omega, by omega⟩, e2]
    have hw := wins_list g2 q hq l.length 0 (by omega) (by omega)
    rw [end0 g2 q hq] at hw
    have e3 : ((q : Nat) : Int).toNat = q := rfl
    rw [e3]
    have hw' : St.winsS q F (T - F - totS l) (l.length : Int) (totS l) l 0 0 F = (List.range' 0 l.length).map fun j => (endS q F (T - F - totS l) l j, endS q F (T - F - totS l) l (j + 1)) := hw
    rw [hw', List.map_map]
    rfl
theorem winL_len (q : Nat) (F s : Int) (l : List Int) : (winL q F s l).length = l.length := by simp [winL]
theorem winL_at {q : Nat} {F s : Int} {l : List Int} {i : Nat} (h : i < l.length) : rd_T71 (winL q F s l) (i : Int) = ⟨endS q F s l i, endS q F s l (i + 1)⟩ := by
  unfold rd_T71
  rw [show ((i : Nat) : Int).toNat = i from rfl, List.getD_eq_getElem?_getD, List.getElem?_eq_getElem (by simpa [winL] using h)]
  simp [winL]
end
section
/-! how much longer a window is than its stage -/
theorem gap {F s : Int} {l : List Int} (g : GoodW F s l) (q : Nat) (hq : q ≤ 2) (i : Nat) (hi : i < l.length) :
    l[i] ≤ endS q F s l (i + 1) - endS q F s l i ∧ endS q F s l (i + 1) - endS q F s l i ≤ l[i] + s ∧ (q = 0 → 0 < i → endS q F s l (i + 1) - endS q F s l i = l[i]) ∧ (q = 1 → i + 1 < l.length → endS q F s l (i + 1) - endS q F s l i = l[i]) ∧ (s = 0 → endS q F s l (i + 1) - endS q F s l i = l[i]) ∧
    endS q F s l (i + 1) - endS q F s l i = l[i] + slk q s (i + 1) l.length (totS (l.take (i + 1))) (totS l) - slk q s i l.length (totS (l.take i)) (totS l) := by
  have h5 := tot_take hi
  have h1 := g.s1
  have h6 := g.tot
  have e : endS q F s l (i + 1) - endS q F s l i = l[i] + slk q s (i + 1) l.length (totS (l.take (i + 1))) (totS l) - slk q s i l.length (totS (l.take i)) (totS l) := by
    unfold endS
    omega
  rw [e]
  refine ⟨?_, ?_, ?_, ?_, ?_, rfl⟩
  all_goals obtain rfl | rfl | rfl : q = 0 ∨ q = 1 ∨ q = 2 := by omega
  · simp only [slk]; rw [if_neg (by omega)]; split <;> omega
  · simp only [slk]; split <;> split <;> omega
  · simp only [slk]
    have p3 : s * totS (l.take i) ≤ s * totS (l.take (i + 1)) := Int.mul_le_mul_of_nonneg_left (by have := g.each l[i] (List.getElem_mem hi); omega) h1
    have p4 := Int.ediv_le_ediv (show 0 < totS l by omega) p3
    omega
  · simp only [slk]; rw [if_neg (by omega)]; split <;> omega
  · simp only [slk]; split <;> split <;> omega
  · simp only [slk]
    have := share g (i + 1)
    have := share g i
    omega
  · intro _ hi0; simp only [slk]; rw [if_neg (by omega), if_neg (by omega)]; omega
  · intro h; cases h
  · intro h; cases h
  · intro h; cases h
  · intro _ hm; simp only [slk]; rw [if_neg (by omega), if_neg (by omega)]; omega
  · intro h; cases h
  · intro hs; subst hs; simp [slk]
  · intro hs; subst hs; simp [slk]
  · intro hs; subst hs; simp [slk]
theorem end_range {F s : Int} {l : List Int} (g : GoodW F s l) (q : Nat) (hq : q ≤ 2) (i : Nat) (hi : i ≤ l.length) : F ≤ endS q F s l i ∧ endS q F s l i ≤ F + 70000 := by
  cases i with
  | zero => rw [end0 g q hq]; omega
  | succ i =>
    obtain ⟨_, k2, k3⟩ := slk_step g q hq i (by omega)
    have h4 := tot_le g.each (i + 1)
    have h5 := g.tot
    have h6 := g.s2
    unfold endS
    generalize slk q s (i + 1) l.length (totS (l.take (i + 1))) (totS l) = z at k2 k3 ⊢
    omega
end
set_option maxRecDepth 100000 in
theorem head_ev : Ev (fun k => liverylaw18_head.f k) true := Ev.of liverylaw18_head.mono (k := 40) (by kernel_rfl)
section
theorem whole_l1 {F s T : Int} {l : List Int} (g : GoodW F s l) (q : Nat) (hq : q ≤ 2) (hT : endS q F s l l.length = T) (hend : Ev (fun k => liverylaw18_StageWhole.l0 k l s (((q : Int) + 1) % 256) F T) true) :
    ∀ (n i : Nat), l.length - i = n → i ≤ l.length → Ev (fun k => liverylaw18_StageWhole.l1 k l s (q : Int) (winL q F s l) (endS q F s l i) (i : Int) F T) true := by
  intro n
  induction n with
  | zero =>
    intro i hn hi
    have hi2 : i = l.length := by omega
    subst hi2
    refine Ev.step (fun k => ?_) hend
    show liverylaw18_StageWhole.l1 (k + 1) l s (q : Int) (winL q F s l) (endS q F s l l.length) (l.length : Int) F T = _
    rw [liverylaw18_StageWhole.l1, winL_len, if_neg (by omega), if_pos hT]
  | succ n ih =>
    intro i hn hi
    have hi' : i < l.length := by omega
    obtain ⟨g1, g2, g3, g4, g5, _⟩ := gap g q hq i hi'
    have r1 := end_range g q hq i hi
    have r2 := end_range g q hq (i + 1) hi'
    have f1 := g.f1
    have f2 := g.f2
    have n2 := g.n2
    have hx := rd_nat hi'
    have IH := ih (i + 1) (by omega) hi'
    have ew := winL_at (q := q) (F := F) (s := s) hi'
    have el := winL_len q F s l
    generalize winL q F s l = c at *
    generalize endS q F s l (i + 1) = e1 at *
    generalize endS q F s l i = e0 at *
    have d1 : wrap64 (e1 - e0) = e1 - e0 := w64 (by omega) (by omega)
    have d2 : wrap64 ((i : Int) + 1) = ((i + 1 : Nat) : Int) := w64 (by omega) (by omega)
    have d3 : wrap64 ((l.length : Int) - 1) = (l.length : Int) - 1 := w64 (by omega) (by omega)
    refine Ev.step (fun k => ?_) IH
    show liverylaw18_StageWhole.l1 (k + 1) l s (q : Int) c e0 (i : Int) F T = liverylaw18_StageWhole.l1 k l s (q : Int) c e1 ((i + 1 : Nat) : Int) F T
    rw [liverylaw18_StageWhole.l1, el, ew, hx]
    dsimp only
    rw [d1, d2, d3]
    clear IH ih hend ew el hx d1 d2 d3 r1 r2 hT g
    generalize l[i] = li at *
    rename_i g6
    clear g6 hn hi f1 f2
    rw [if_pos (by omega), if_pos (by omega), if_pos rfl, if_pos (by omega), if_neg (by omega)]
    by_cases c0 : q = 0
    · have g := g3 c0
      rw [if_pos (by omega), if_neg (show ¬ (q : Int) = 1 by omega), if_neg (show ¬ (q : Int) = 1 by omega)]
      by_cases ci : (i : Int) > 0
      · have g := g (by omega)
        rw [if_pos ci, if_pos g]
        split <;> rfl
      · rw [if_neg ci]
        by_cases cs : s = 0
        · rw [if_pos cs, if_pos (g5 cs)]
        · rw [if_neg cs]
    · rw [if_neg (by omega)]
      by_cases c1 : q = 1
      · rw [if_pos (by omega)]
        by_cases cm : (i : Int) < (l.length : Int) - 1
        · rw [if_pos cm, if_pos (g4 c1 (by omega))]
          split <;> rfl
        · rw [if_neg cm]
          by_cases cs : s = 0
          · rw [if_pos cs, if_pos (g5 cs)]
          · rw [if_neg cs]
      · rw [if_neg (by omega)]
        by_cases cs : s = 0
        · rw [if_pos cs, if_pos (g5 cs)]
        · rw [if_neg cs]
theorem StageWhole (a0_0 a0_1 : Int) (a1 : List Int) (w0 : ((Lit.int .i64 a0_0).wf = true) ∧ ((Lit.int .i64 a0_1).wf = true)) (w1 : (a1.length ≤ maxLen ∧ ∀ x ∈ a1, (Lit.int .i64 x).wf = true)) : ∃ k, liverylaw18_StageWhole.f k a0_0 a0_1 a1 = some true := by
  have b1 := XOpen.i64_of w0.1
  have b2 := XOpen.i64_of w0.2
  have hl : a1.length ≤ 9223372036854775807 := w1.1
  have hhead := head_ev
  have hj : ∀ s, Ev (fun k => liverylaw18_StageWhole.j0 k a1 s true a0_0 a0_1) true := fun s => by
    refine Ev.step (f := fun k => (liverylaw18_head.f k).bind fun t => some t) (fun k => ?_) ?_
    · show liverylaw18_StageWhole.j0 (k + 1) a1 s true a0_0 a0_1 = _
      rw [liverylaw18_StageWhole.j0, if_pos rfl]
    · exact Ev.bind hhead (Ev.now true)
  refine Ev.rounds ?_
  by_cases hl0 : (a1.length : Int) > 40
  · refine Ev.congr (f := fun k => (stage_Slack.f k a0_0 a0_1 a1).bind fun bt212 => (if (a1.length : Int) > 40 then (liverylaw18_StageWhole.j0 k a1 bt212.1 true a0_0 a0_1) else (liverylaw18_StageWhole.j0 k a1 bt212.1 (bt212.2 != 0) a0_0 a0_1))) (fun k => rfl) ?_
    obtain ⟨z, hz⟩ : ∃ z, (if (checkR a0_0 a0_1 a1).2 = 0 then (wrap64 (wrap64 (a0_1 - a0_0) - (checkR a0_0 a0_1 a1).1), (0 : Int)) else (0, (checkR a0_0 a0_1 a1).2)) = z := ⟨_, rfl⟩
    have hs := slack_ev a0_0 a0_1 a1 hl
    rw [hz] at hs
    refine Ev.bind hs (Ev.congr (f := fun k => liverylaw18_StageWhole.j0 k a1 z.1 true a0_0 a0_1) (fun k => ?_) (hj z.1))
    rw [if_pos hl0]
  have hs := slack_ev a0_0 a0_1 a1 (by omega)
  by_cases he : (checkR a0_0 a0_1 a1).2 = 0
  · rw [if_pos he] at hs
    obtain ⟨g, hc⟩ := check_ok b1 b2 he
    have hsp := split_good b1 b2 he
    rw [hc] at hs
    have h1 := g.n1; have h2 := g.n2; have h3 := g.lt; have h4 := g.len
    have h5 := tot_bound a1 g.each
    have e1 : wrap64 (a0_1 - a0_0) = a0_1 - a0_0 := w64 (by omega) (by omega)
    have e2 : wrap64 (a0_1 - a0_0 - totS a1) = a0_1 - a0_0 - totS a1 := w64 (by omega) (by omega)
    dsimp only at hs
    rw [e1, e2] at hs
    obtain ⟨s, hse⟩ : ∃ s, a0_1 - a0_0 - totS a1 = s := ⟨_, rfl⟩
    rw [hse] at hs hsp
    have fin : Ev (fun k => liverylaw18_StageWhole.l0 k a1 s 3 a0_0 a0_1) true := by
      refine Ev.step (f := fun k => (liverylaw18_head.f k).bind fun t => some t) (fun k => ?_) (Ev.bind hhead (Ev.now true))
      show liverylaw18_StageWhole.l0 (k + 1) a1 s 3 a0_0 a0_1 = _
      rw [liverylaw18_StageWhole.l0, if_neg (by decide)]
    have round : ∀ q : Nat, q ≤ 2 → Ev (fun k => liverylaw18_StageWhole.l0 k a1 s (((q : Int) + 1) % 256) a0_0 a0_1) true → Ev (fun k => liverylaw18_StageWhole.l0 k a1 s (q : Int) a0_0 a0_1) true := by
      intro q hq hnext
      have h := split_ev a0_0 a0_1 a1 (by omega) q (hsp q hq)
      by_cases hn : s < 0
      · rw [if_pos (by omega)] at h
        refine Ev.step (f := fun k => (stage_Split.f k a0_0 a0_1 a1 (q : Int)).bind fun bt216 => (if s < 0 then (if bt216.2 = 210 then (if (bt216.1.length : Int) = 0 then (liverylaw18_StageWhole.l0 k a1 s (((q : Int) + 1) % 256) a0_0 a0_1) else (none)) else (none)) else (if bt216.2 = 0 then (liverylaw18_StageWhole.j2 k a1 s (q : Int) bt216.1 ((bt216.1.length : Int) != (a1.length : Int)) a0_0 a0_1) else (none)))) (fun k => ?_) ?_
        · show liverylaw18_StageWhole.l0 (k + 1) a1 s (q : Int) a0_0 a0_1 = _
          rw [liverylaw18_StageWhole.l0, if_pos (by omega)]
        · refine Ev.bind h (Ev.congr (fun k => ?_) hnext)
          rw [if_pos hn]
          rfl
      · rw [if_neg (by omega)] at h
        have gw : GoodW a0_0 s a1 := ⟨h1, h2, g.f1, g.f2, by omega, by omega, g.each⟩
        have hend := endm gw q hq
        refine Ev.step (f := fun k => (stage_Split.f k a0_0 a0_1 a1 (q : Int)).bind fun bt216 => (if s < 0 then (if bt216.2 = 210 then (if (bt216.1.length : Int) = 0 then (liverylaw18_StageWhole.l0 k a1 s (((q : Int) + 1) % 256) a0_0 a0_1) else (none)) else (none)) else (if bt216.2 = 0 then (liverylaw18_StageWhole.j2 k a1 s (q : Int) bt216.1 ((bt216.1.length : Int) != (a1.length : Int)) a0_0 a0_1) else (none)))) (fun k => ?_) ?_
        · show liverylaw18_StageWhole.l0 (k + 1) a1 s (q : Int) a0_0 a0_1 = _
          rw [liverylaw18_StageWhole.l0, if_pos (by omega)]
        · have hl1 := whole_l1 (T := a0_1) gw q hq (by omega) hnext a1.length 0 (by omega) (by omega)
          rw [end0 gw q hq] at hl1
          refine Ev.bind h (Ev.congr (f := fun k => liverylaw18_StageWhole.j2 k a1 s (q : Int) (winL q a0_0 s a1) false a0_0 a0_1) (fun k => ?_) (Ev.step (fun k => ?_) hl1))
          · rw [if_neg hn]
            dsimp only
            rw [if_pos rfl, winL_len, bne_self_eq_false]
          · show liverylaw18_StageWhole.j2 (k + 1) a1 s (q : Int) (winL q a0_0 s a1) false a0_0 a0_1 = _
            rw [liverylaw18_StageWhole.j2, if_neg (by decide)]
            rfl
    have r2 := round 2 (by omega) fin
    have r1 := round 1 (by omega) r2
    have r0 := round 0 (by omega) r1
    refine Ev.congr (f := fun k => (stage_Slack.f k a0_0 a0_1 a1).bind fun bt212 => (if (a1.length : Int) > 40 then (liverylaw18_StageWhole.j0 k a1 bt212.1 true a0_0 a0_1) else (liverylaw18_StageWhole.j0 k a1 bt212.1 (bt212.2 != 0) a0_0 a0_1))) (fun k => rfl) ?_
    refine Ev.bind hs (Ev.congr (f := fun k => liverylaw18_StageWhole.j0 k a1 s false a0_0 a0_1) (fun k => ?_) (Ev.step (fun k => ?_) r0))
    · rw [if_neg hl0]
      rfl
    · show liverylaw18_StageWhole.j0 (k + 1) a1 s false a0_0 a0_1 = _
      rw [liverylaw18_StageWhole.j0, if_neg (by decide)]
      rfl
  · rw [if_neg he] at hs
    refine Ev.congr (f := fun k => (stage_Slack.f k a0_0 a0_1 a1).bind fun bt212 => (if (a1.length : Int) > 40 then (liverylaw18_StageWhole.j0 k a1 bt212.1 true a0_0 a0_1) else (liverylaw18_StageWhole.j0 k a1 bt212.1 (bt212.2 != 0) a0_0 a0_1))) (fun k => rfl) ?_
    refine Ev.bind hs (Ev.congr (f := fun k => liverylaw18_StageWhole.j0 k a1 0 true a0_0 a0_1) (fun k => ?_) (hj 0))
    rw [if_neg hl0, show ((checkR a0_0 a0_1 a1).2 != 0) = true by simpa using he]
end
end Go.Proofs.Ytkaokiiooakleaa.PStageWhole
