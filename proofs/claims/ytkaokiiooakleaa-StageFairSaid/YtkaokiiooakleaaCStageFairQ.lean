/- The statement StageFair over numbers and lists alone: of every input. No condition but that numbers are of their kind. -/
import Derived.Test.YtkaokiiooakleaaCStageFair0
import Derived.Test.YtkaokiiooakleaaCStageFair1
import Derived.Test.YtkaokiiooakleaaCStageFair10
import Derived.Test.YtkaokiiooakleaaCStageFair11
import Derived.Test.YtkaokiiooakleaaCStageFair12
import Derived.Test.YtkaokiiooakleaaCStageFair2
import Derived.Test.YtkaokiiooakleaaCStageFair3
import Derived.Test.YtkaokiiooakleaaCStageFair4
import Derived.Test.YtkaokiiooakleaaCStageFair5
import Derived.Test.YtkaokiiooakleaaCStageFair6
import Derived.Test.YtkaokiiooakleaaCStageFair7
import Derived.Test.YtkaokiiooakleaaCStageFair8
import Derived.Test.YtkaokiiooakleaaCStageFair9
import Derived.Test.YtkaokiiooakleaaCStageFairW
set_option linter.unusedVariables false
namespace Go.Proofs.Ytkaokiiooakleaa.PStageFair
open Go.RowKit Go.Proofs.YtkaokiiooakleaaW.PrintWords Go.Proofs.YtkaokiiooakleaaW.PrintLast Go.Proofs.YtkaokiiooakleaaW.PrintMore
section
/-! #### stages: what check tells, and where windows end -/
def totS : List Int → Int
  | [] => 0
  | n :: r => n + totS r
def sumW : Int → List Int → Int
  | s, [] => s
  | s, n :: r => sumW (wrap64 (s + n)) r
def badL (x : Int) : Bool := decide (x < 1) || decide (x > 4096)
def farB (x : Int) : Bool := decide (x < -1099511627776) || decide (x > 1099511627776)
theorem w64 {x : Int} (h1 : -9223372036854775808 ≤ x) (h2 : x ≤ 9223372036854775807) : wrap64 x = x := by
  unfold wrap64
  omega
theorem far_f (x : Int) : stage_far.f x = some (farB x) := by
  unfold stage_far.f farB
  split
  · rename_i h; rw [decide_eq_true h]; rfl
  · rename_i h; rw [decide_eq_false h]; rfl
def chkFin (F T s : Int) (b : Bool) : Int × Int := if b = true then (0, 2) else if (farB F || farB T) = true then (0, 10) else (s, 0)
def chkB (F T : Int) (l : List Int) : Bool := decide ((l.length : Int) = 0) || (decide ((l.length : Int) > 16) || (decide (F ≥ T) || decide (IntKind.u64.wrap (wrap64 (T - F)) > 4096)))
def checkR (F T : Int) (l : List Int) : Int × Int := chkFin F T (sumW 0 l) (chkB F T l || l.any badL)
theorem rd_nat {l : List Int} {i : Nat} (h : i < l.length) : rd l (i : Int) = l[i] := by
  unfold rd
  rw [show ((i : Nat) : Int).toNat = i from rfl, List.getD_eq_getElem?_getD, List.getElem?_eq_getElem h]
  rfl
theorem check_loop (l : List Int) (F T : Int) (hl : l.length ≤ 9223372036854775807) : ∀ (n i : Nat) (s : Int) (b : Bool), l.length - i = n → i ≤ l.length →
    Ev (fun k => stage_check.l0 k s b l (l.length : Int) (i : Int) F T) (chkFin F T (sumW s (l.drop i)) (b || (l.drop i).any badL)) := by
  intro n
  induction n with
  | zero =>
    intro i s b hn hi
    rw [List.drop_eq_nil_of_le (by omega)]
    refine ⟨1, fun k hk => ?_⟩
    obtain ⟨k, rfl⟩ : ∃ k', k = k' + 1 := ⟨k - 1, by omega⟩
    show stage_check.l0 (k + 1) s b l (l.length : Int) (i : Int) F T = _
    rw [stage_check.l0, if_neg (by omega)]
    cases b with
    | true => rfl
    | false =>
      rw [if_neg (by decide), far_f, far_f, Option.bind_some]
      unfold chkFin
      cases farB F with
      | true => rfl
      | false =>
        cases farB T with
        | true => rfl
        | false => rfl
  | succ n ih =>
    intro i s b hn hi
    have hi' : i < l.length := by omega
    rw [List.drop_eq_getElem_cons hi']
    have hx := rd_nat hi'
    have e1 : wrap64 ((i : Int) + 1) = ((i + 1 : Nat) : Int) := by unfold wrap64; omega
    cases b with
    | true =>
      have := ih (i + 1) (wrap64 (s + l[i])) true (by omega) hi'
      refine Ev.step (fun k => ?_) this
      show stage_check.l0 (k + 1) s true l (l.length : Int) (i : Int) F T = _
      rw [stage_check.l0, if_pos (by omega), if_pos (by omega), if_pos (by omega), if_pos rfl, hx, e1]
    | false =>
      by_cases hb : l[i] < 1
      · have := ih (i + 1) (wrap64 (s + l[i])) true (by omega) hi'
        have e2 : (false || (l[i] :: l.drop (i + 1)).any badL) = (true || (l.drop (i + 1)).any badL) := by
          rw [List.any_cons, show badL l[i] = true by unfold badL; rw [decide_eq_true hb]; rfl]
          rfl
        rw [e2]
        refine Ev.step (fun k => ?_) this
        show stage_check.l0 (k + 1) s false l (l.length : Int) (i : Int) F T = _
        rw [stage_check.l0, if_pos (by omega), if_pos (by omega), if_pos (by omega), if_neg (by decide), hx, if_pos hb, e1]
      · have := ih (i + 1) (wrap64 (s + l[i])) (decide (l[i] > 4096)) (by omega) hi'
        have e2 : (false || (l[i] :: l.drop (i + 1)).any badL) = (decide (l[i] > 4096) || (l.drop (i + 1)).any badL) := by
          rw [List.any_cons, show badL l[i] = decide (l[i] > 4096) by unfold badL; rw [decide_eq_false hb]; rfl]
          rfl
        rw [e2]
        refine Ev.step (fun k => ?_) this
        show stage_check.l0 (k + 1) s false l (l.length : Int) (i : Int) F T = _
        rw [stage_check.l0, if_pos (by omega), if_pos (by omega), if_pos (by omega), if_neg (by decide), hx, if_neg hb, e1]
theorem check_ev (F T : Int) (l : List Int) (hl : l.length ≤ 9223372036854775807) : Ev (fun k => stage_check.f k F T l) (checkR F T l) := by
  have key : ∀ b, Ev (fun k => stage_check.j0 k l 0 b F T) (chkFin F T (sumW 0 l) (b || l.any badL)) := fun b => by
    have := check_loop l F T hl l.length 0 0 b (by omega) (by omega)
    exact Ev.step (fun k => by rw [stage_check.j0]; rfl) this
  unfold checkR chkB
  by_cases h1 : (l.length : Int) = 0
  · rw [decide_eq_true h1, Bool.true_or]
    refine Ev.congr (fun k => ?_) (key true)
    unfold stage_check.f
    rw [if_pos h1]
  · rw [decide_eq_false h1, Bool.false_or]
    by_cases h2 : (l.length : Int) > 16
    · rw [decide_eq_true h2, Bool.true_or]
      refine Ev.congr (fun k => ?_) (key true)
      unfold stage_check.f
      rw [if_neg h1, if_pos h2]
    · rw [decide_eq_false h2, Bool.false_or]
      by_cases h3 : F ≥ T
      · rw [decide_eq_true h3, Bool.true_or]
        refine Ev.congr (fun k => ?_) (key true)
        unfold stage_check.f
        rw [if_neg h1, if_neg h2, if_pos h3]
      · rw [decide_eq_false h3, Bool.false_or]
        refine Ev.congr (fun k => ?_) (key _)
        unfold stage_check.f
        rw [if_neg h1, if_neg h2, if_neg h3]
theorem tot_bound : ∀ (l : List Int), (∀ x ∈ l, 1 ≤ x ∧ x ≤ 4096) → (l.length : Int) ≤ totS l ∧ totS l ≤ 4096 * (l.length : Int)
  | [], _ => by simp [totS]
  | x :: r, h => by
    have h1 := h x (by simp)
    have h2 := tot_bound r (fun y hy => h y (by simp [hy]))
    simp only [totS, List.length_cons]
    omega
theorem sumW_tot : ∀ (l : List Int) (s : Int), (∀ x ∈ l, 1 ≤ x ∧ x ≤ 4096) → 0 ≤ s → s + 4096 * (l.length : Int) ≤ 1000000 → sumW s l = s + totS l
  | [], s, _, _, _ => by simp [sumW, totS]
  | x :: r, s, h, h0, hs => by
    have h1 := h x (by simp)
    simp only [List.length_cons] at hs
    have e1 : wrap64 (s + x) = s + x := by unfold wrap64; omega
    rw [sumW, e1, sumW_tot r (s + x) (fun y hy => h y (by simp [hy])) (by omega) (by omega)]
    simp only [totS]
    omega
/-- What a good window and good stages are. -/
structure GoodS (F T : Int) (l : List Int) : Prop where
  n1 : 1 ≤ l.length
  n2 : l.length ≤ 16
  lt : F < T
  len : T - F ≤ 4096
  f1 : -1099511627776 ≤ F
  f2 : F ≤ 1099511627776
  t1 : -1099511627776 ≤ T
  t2 : T ≤ 1099511627776
  each : ∀ x ∈ l, 1 ≤ x ∧ x ≤ 4096
theorem check_ok {F T : Int} {l : List Int} (hF : -9223372036854775808 ≤ F ∧ F ≤ 9223372036854775807) (hT : -9223372036854775808 ≤ T ∧ T ≤ 9223372036854775807) (h : (checkR F T l).2 = 0) : GoodS F T l ∧ checkR F T l = (totS l, 0) := by
  have h0 : ¬ (chkB F T l || l.any badL) = true := fun hb => by unfold checkR chkFin at h; rw [if_pos hb] at h; cases h
  have h1 : ¬ (farB F || farB T) = true := fun hb => by unfold checkR chkFin at h; rw [if_neg h0, if_pos hb] at h; cases h
  have h2 : checkR F T l = (sumW 0 l, 0) := by unfold checkR chkFin; rw [if_neg h0, if_neg h1]
  simp only [chkB, farB, Bool.or_eq_true, decide_eq_true_eq, not_or, List.any_eq_true, not_exists] at h0 h1
  obtain ⟨⟨a1, a2, a3, a4⟩, a5⟩ := h0
  obtain ⟨⟨b1, b2⟩, b3, b4⟩ := h1
  have a6 : ∀ x ∈ l, 1 ≤ x ∧ x ≤ 4096 := fun x hx => by
    have := a5 x
    simp only [badL, Bool.or_eq_true, decide_eq_true_eq, not_and, not_or] at this
    have := this hx
    omega
  have a7 : IntKind.u64.wrap (wrap64 (T - F)) = T - F := by
    have e : IntKind.u64.wrap (wrap64 (T - F)) = (wrap64 (T - F)) % 18446744073709551616 := rfl
    rw [e]
    unfold wrap64
    omega
  rw [a7] at a4
  refine ⟨⟨by omega, by omega, by omega, by omega, by omega, by omega, by omega, by omega, a6⟩, ?_⟩
  rw [h2, sumW_tot l 0 a6 (by omega) (by omega)]
  simp
theorem chk_snd (F T : Int) (l : List Int) : (checkR F T l).2 = 0 ∨ (checkR F T l).2 = 2 ∨ (checkR F T l).2 = 10 := by
  unfold checkR chkFin
  split
  · exact .inr (.inl rfl)
  · split
    · exact .inr (.inr rfl)
    · exact .inl rfl
theorem slack_ev (F T : Int) (l : List Int) (hl : l.length ≤ 9223372036854775807) : Ev (fun k => stage_Slack.f k F T l) (if (checkR F T l).2 = 0 then (wrap64 (wrap64 (T - F) - (checkR F T l).1), 0) else (0, (checkR F T l).2)) := by
  obtain ⟨n, g⟩ := check_ev F T l hl
  refine ⟨n, fun k hk => ?_⟩
  have := g k hk
  dsimp only at this
  show stage_Slack.f k F T l = _
  unfold stage_Slack.f
  rw [this, Option.bind_some]
  split <;> rfl
theorem split_ev (F T : Int) (l : List Int) (hl : l.length ≤ 9223372036854775807) (q : Int) {r : List S71 × Int} (hr : St.splitR F T l q (checkR F T l).1 (checkR F T l).2 = some r) : Ev (fun k => stage_Split.f k F T l q) r := by
  obtain ⟨n, g⟩ := check_ev F T l hl
  refine ⟨n, fun k hk => ?_⟩
  have := g k hk
  dsimp only at this
  show stage_Split.f k F T l q = _
  unfold stage_Split.f
  rw [this, Option.bind_some]
  exact hr
/-! the windows -/
def slk (q : Nat) (s : Int) (i m : Nat) (p a : Int) : Int := match q with
  | 0 => if i = 0 then 0 else s
  | 1 => if i = m then s else 0
  | _ => s * p / a
def endS (q : Nat) (F s : Int) (l : List Int) (i : Nat) : Int := F + totS (l.take i) + slk q s i l.length (totS (l.take i)) (totS l)
theorem tot_take {l : List Int} {i : Nat} (h : i < l.length) : totS (l.take (i + 1)) = totS (l.take i) + l[i] := by
  induction l generalizing i with
  | nil => simp at h
  | cons x r ih =>
    cases i with
    | zero => simp [totS]
    | succ i =>
      have := ih (i := i) (by simpa using h)
      simp only [List.take_succ_cons, totS, List.getElem_cons_succ, this]
      omega
theorem tot_le {l : List Int} (h : ∀ x ∈ l, 1 ≤ x ∧ x ≤ 4096) (i : Nat) : 0 ≤ totS (l.take i) ∧ totS (l.take i) ≤ totS l := by
  have h1 := (tot_bound (l.take i) (fun x hx => h x (List.mem_of_mem_take hx))).1
  refine ⟨by omega, ?_⟩
  have h2 := (tot_bound (l.drop i) (fun x hx => h x (List.mem_of_mem_drop hx))).1
  have app : ∀ a b : List Int, totS (a ++ b) = totS a + totS b := by
    intro a b
    induction a with
    | nil => simp [totS]
    | cons x r ih => simp only [List.cons_append, totS, ih]; omega
  have := app (l.take i) (l.drop i)
  rw [List.take_append_drop] at this
  omega
structure GoodW (F s : Int) (l : List Int) : Prop where
  n1 : 1 ≤ l.length
  n2 : l.length ≤ 16
  f1 : -1099511627776 ≤ F
  f2 : F ≤ 1099511627776
  s1 : 0 ≤ s
  s2 : s ≤ 4096
  each : ∀ x ∈ l, 1 ≤ x ∧ x ≤ 4096
theorem GoodW.tot {F s : Int} {l : List Int} (g : GoodW F s l) : 1 ≤ totS l ∧ totS l ≤ 65536 := by
  have := tot_bound l g.each
  have := g.n1
  have := g.n2
  omega
theorem share {F s : Int} {l : List Int} (g : GoodW F s l) (i : Nat) : 0 ≤ s * totS (l.take i) ∧ s * totS (l.take i) ≤ 268435456 ∧ 0 ≤ s * totS (l.take i) / totS l ∧ s * totS (l.take i) / totS l ≤ s := by
  have ht := tot_le g.each i
  have hT := g.tot
  have h1 := g.s1
  have h2 := g.s2
  have p1 : 0 ≤ s * totS (l.take i) := Int.mul_nonneg h1 ht.1
  have p2 : s * totS (l.take i) ≤ 4096 * 65536 := Int.mul_le_mul h2 (by omega) ht.1 (by omega)
  refine ⟨p1, by omega, Int.ediv_nonneg p1 (by omega), ?_⟩
  have p3 : s * totS (l.take i) ≤ s * totS l := Int.mul_le_mul_of_nonneg_left ht.2 h1
  have p4 := Int.ediv_le_ediv (show 0 < totS l by omega) p3
  rw [Int.mul_ediv_cancel _ (by omega)] at p4
  exact p4
theorem slk_step {F s : Int} {l : List Int} (g : GoodW F s l) (q : Nat) (hq : q ≤ 2) (i : Nat) (hi : i < l.length) :
    St.slackOf q s ((i + 1 : Nat) : Int) (l.length : Int) (totS (l.take (i + 1))) (totS l) = slk q s (i + 1) l.length (totS (l.take (i + 1))) (totS l) ∧ 0 ≤ slk q s (i + 1) l.length (totS (l.take (i + 1))) (totS l) ∧ slk q s (i + 1) l.length (totS (l.take (i + 1))) (totS l) ≤ s := by
  have h1 := g.s1
  obtain rfl | rfl | rfl : q = 0 ∨ q = 1 ∨ q = 2 := by omega
  · simp [St.slackOf, slk, h1]
  · simp only [St.slackOf, slk]
    by_cases h : i + 1 = l.length
    · rw [if_pos h, if_pos (by omega)]; exact ⟨rfl, h1, Int.le_refl _⟩
    · rw [if_neg h, if_neg (by omega)]; exact ⟨rfl, Int.le_refl _, h1⟩
  · have := share g (i + 1)
    have hT := g.tot
    simp only [St.slackOf, slk]
    have e1 : wrap64 (s * totS (l.take (i + 1))) = s * totS (l.take (i + 1)) := by unfold wrap64; omega
    rw [e1, Int.tdiv_eq_ediv_of_nonneg this.1]
    have := g.s2
    exact ⟨by unfold wrap64; omega, by omega, by omega⟩
theorem wins_list {F s : Int} {l : List Int} (g : GoodW F s l) (q : Nat) (hq : q ≤ 2) : ∀ (n i : Nat), l.length - i = n → i ≤ l.length →
    St.winsS q F s (l.length : Int) (totS l) (l.drop i) (i : Int) (totS (l.take i)) (endS q F s l i) = (List.range' i n).map fun j => (endS q F s l j, endS q F s l (j + 1)) := by
  intro n
  induction n with
  | zero =>
    intro i hn hi
    rw [List.drop_eq_nil_of_le (by omega)]
    rfl
  | succ n ih =>
    intro i hn hi
    have hi' : i < l.length := by omega
    rw [List.drop_eq_getElem_cons hi', St.winsS, List.range'_succ, List.map_cons]
    have h1 := g.f1
    have h2 := g.f2
    have h3 := g.tot
    have h4 := tot_le g.each (i + 1)
    have h5 := tot_take hi'
    have h6 := g.n2
    have h7 := g.s2
    obtain ⟨k1, k2, k3⟩ := slk_step g q hq i hi'
    have e1 : wrap64 ((i : Int) + 1) = ((i + 1 : Nat) : Int) := by unfold wrap64; omega
    have e2 : wrap64 (totS (l.take i) + l[i]) = totS (l.take (i + 1)) := by rw [← h5]; unfold wrap64; omega
    rw [e1, e2, k1]
    have e3 : wrap64 (wrap64 (F + totS (l.take (i + 1))) + slk q s (i + 1) l.length (totS (l.take (i + 1))) (totS l)) = endS q F s l (i + 1) := by
      unfold endS
      generalize slk q s (i + 1) l.length (totS (l.take (i + 1))) (totS l) = z at k2 k3 ⊢
      generalize totS (l.take (i + 1)) = y at h4 ⊢
      clear ih k1 e1 e2 h5
      rw [w64 (x := F + y) (by omega) (by omega), w64 (by omega) (by omega)]
    have hn' : l.length - (i + 1) = n := by clear k1 k2 k3 e1 e2 e3 h1 h2 h3 h4 h5 h6 h7 ih g; omega
    rw [e3, ih (i + 1) hn' hi']
/-- The windows. -/
def winL (q : Nat) (F s : Int) (l : List Int) : List S71 := (List.range' 0 l.length).map fun j => ⟨endS q F s l j, endS q F s l (j + 1)⟩
theorem end0 {F s : Int} {l : List Int} (g : GoodW F s l) (q : Nat) (hq : q ≤ 2) : endS q F s l 0 = F := by
  have := g.n1
  obtain rfl | rfl | rfl : q = 0 ∨ q = 1 ∨ q = 2 := by omega
  · simp [endS, slk, totS]
  · simp only [endS, slk, List.take_zero, totS]
    rw [if_neg (by omega)]
    omega
  · simp [endS, slk, totS]
theorem endm {F s : Int} {l : List Int} (g : GoodW F s l) (q : Nat) (hq : q ≤ 2) : endS q F s l l.length = F + totS l + s := by
  have h1 := g.n1
  have h2 := g.tot
  unfold endS
  rw [List.take_length]
  obtain rfl | rfl | rfl : q = 0 ∨ q = 1 ∨ q = 2 := by omega
  · simp only [slk]
    rw [if_neg (by omega)]
  · simp [slk]
  · simp only [slk]
    rw [Int.mul_ediv_cancel _ (by omega)]
theorem split_good {F T : Int} {l : List Int} (hF : -9223372036854775808 ≤ F ∧ F ≤ 9223372036854775807) (hT : -9223372036854775808 ≤ T ∧ T ≤ 9223372036854775807) (h : (checkR F T l).2 = 0) (q : Nat) (hq : q ≤ 2) :
    St.splitR F T l (q : Int) (checkR F T l).1 (checkR F T l).2 = some (if T - F < totS l then ([], 210) else (winL q F (T - F - totS l) l, 0)) := by
  obtain ⟨g, hc⟩ := check_ok hF hT h
  rw [hc]
  have h1 := g.n1; have h2 := g.n2; have h3 := g.lt; have h4 := g.len
  have h5 := tot_bound l g.each
  have e1 : wrap64 (T - F) = T - F := by unfold wrap64; omega
  unfold St.splitR
  dsimp only
  rw [if_neg (by decide), if_neg (by omega), if_neg (by decide), e1]
  by_cases hs : T - F < totS l
  · rw [if_pos (by omega), if_pos hs]
  · have g2 : GoodW F (T - F - totS l) l := ⟨h1, h2, g.f1, g.f2, by omega, by omega, g.each⟩
    have e2 : wrap64 (T - F - totS l) = T - F - totS l := by unfold wrap64; omega
    rw [if_neg (by omega), if_neg hs, if_pos ⟨by omega, by omega, by omega⟩, e2]
    have hw := wins_list g2 q hq l.length 0 (by omega) (by omega)
    rw [end0 g2 q hq] at hw
    have e3 : ((q : Nat) : Int).toNat = q := rfl
    rw [e3]
    have hw' : St.winsS q F (T - F - totS l) (l.length : Int) (totS l) l 0 0 F = (List.range' 0 l.length).map fun j => (endS q F (T - F - totS l) l j, endS q F (T - F - totS l) l (j + 1)) := hw
    rw [hw', List.map_map]
    rfl
theorem winL_len (q : Nat) (F s : Int) (l : List Int) : (winL q F s l).length = l.length := by simp [winL]
theorem winL_at {q : Nat} {F s : Int} {l : List Int} {i : Nat} (h : i < l.length) : rd_T71 (winL q F s l) (i : Int) = ⟨endS q F s l i, endS q F s l (i + 1)⟩ := by
  unfold rd_T71
  rw [show ((i : Nat) : Int).toNat = i from rfl, List.getD_eq_getElem?_getD, List.getElem?_eq_getElem (by simpa [winL] using h)]
  simp [winL]
end
section
/-! how much longer a window is than its stage -/
theorem gap {F s : Int} {l : List Int} (g : GoodW F s l) (q : Nat) (hq : q ≤ 2) (i : Nat) (hi : i < l.length) :
    l[i] ≤ endS q F s l (i + 1) - endS q F s l i ∧ endS q F s l (i + 1) - endS q F s l i ≤ l[i] + s ∧ (q = 0 → 0 < i → endS q F s l (i + 1) - endS q F s l i = l[i]) ∧ (q = 1 → i + 1 < l.length → endS q F s l (i + 1) - endS q F s l i = l[i]) ∧ (s = 0 → endS q F s l (i + 1) - endS q F s l i = l[i]) ∧
    endS q F s l (i + 1) - endS q F s l i = l[i] + slk q s (i + 1) l.length (totS (l.take (i + 1))) (totS l) - slk q s i l.length (totS (l.take i)) (totS l) := by
  have h5 := tot_take hi
  have h1 := g.s1
  have h6 := g.tot
  have e : endS q F s l (i + 1) - endS q F s l i = l[i] + slk q s (i + 1) l.length (totS (l.take (i + 1))) (totS l) - slk q s i l.length (totS (l.take i)) (totS l) := by
    unfold endS
    omega
  rw [e]
  refine ⟨?_, ?_, ?_, ?_, ?_, rfl⟩
  all_goals obtain rfl | rfl | rfl : q = 0 ∨ q = 1 ∨ q = 2 := by omega
  · simp only [slk]; rw [if_neg (by omega)]; split <;> omega
  · simp only [slk]; split <;> split <;> omega
  · simp only [slk]
    have p3 : s * totS (l.take i) ≤ s * totS (l.take (i + 1)) := Int.mul_le_mul_of_nonneg_left (by have := g.each l[i] (List.getElem_mem hi); omega) h1
    have p4 := Int.ediv_le_ediv (show 0 < totS l by omega) p3
    omega
  · simp only [slk]; rw [if_neg (by omega)]; split <;> omega
  · simp only [slk]; split <;> split <;> omega
  · simp only [slk]
    have := share g (i + 1)
    have := share g i
    omega
  · intro _ hi0; simp only [slk]; rw [if_neg (by omega), if_neg (by omega)]; omega
  · intro h; cases h
  · intro h; cases h
  · intro h; cases h
  · intro _ hm; simp only [slk]; rw [if_neg (by omega), if_neg (by omega)]; omega
  · intro h; cases h
  · intro hs; subst hs; simp [slk]
  · intro hs; subst hs; simp [slk]
  · intro hs; subst hs; simp [slk]
theorem end_range {F s : Int} {l : List Int} (g : GoodW F s l) (q : Nat) (hq : q ≤ 2) (i : Nat) (hi : i ≤ l.length) : F ≤ endS q F s l i ∧ endS q F s l i ≤ F + 70000 := by
  cases i with
  | zero => rw [end0 g q hq]; omega
  | succ i =>
    obtain ⟨_, k2, k3⟩ := slk_step g q hq i (by omega)
    have h4 := tot_le g.each (i + 1)
    have h5 := g.tot
    have h6 := g.s2
    unfold endS
    generalize slk q s (i + 1) l.length (totS (l.take (i + 1))) (totS l) = z at k2 k3 ⊢
    omega
end
set_option maxRecDepth 100000 in
theorem head_ev : Ev (fun k => liverylaw18_head.f k) true := Ev.of liverylaw18_head.mono (k := 40) (by kernel_rfl)
section
theorem fair {F s : Int} {l : List Int} (g : GoodW F s l) (i : Nat) (hi : i < l.length) :
    s * l[i] - totS l < (endS 2 F s l (i + 1) - endS 2 F s l i - l[i]) * totS l ∧ (endS 2 F s l (i + 1) - endS 2 F s l i - l[i]) * totS l < s * l[i] + totS l := by
  obtain ⟨_, _, _, _, _, e⟩ := gap g 2 (Nat.le_refl _) i hi
  rw [e]
  simp only [slk]
  have hT := g.tot
  have h5 := tot_take hi
  have hp : s * totS (l.take (i + 1)) = s * totS (l.take i) + s * l[i] := by rw [h5, Int.mul_add]
  have a1 := Int.mul_ediv_self_le (x := s * totS (l.take (i + 1))) (k := totS l) (by omega)
  have a2 := Int.lt_mul_ediv_self_add (x := s * totS (l.take (i + 1))) (k := totS l) (by omega)
  have b1 := Int.mul_ediv_self_le (x := s * totS (l.take i)) (k := totS l) (by omega)
  have b2 := Int.lt_mul_ediv_self_add (x := s * totS (l.take i)) (k := totS l) (by omega)
  generalize s * totS (l.take (i + 1)) / totS l = u at *
  generalize s * totS (l.take i) / totS l = v at *
  have e2 : (l[i] + u - v - l[i]) * totS l = totS l * u - totS l * v := by
    rw [show l[i] + u - v - l[i] = u - v by omega, Int.mul_comm, Int.mul_sub]
  rw [e2]
  omega
theorem fair_two {F s : Int} {l : List Int} (g : GoodW F s l) (i j : Nat) (hi : i < l.length) (hj : j < l.length) (h : l[i] ≤ l[j]) :
    endS 2 F s l (i + 1) - endS 2 F s l i - 1 ≤ endS 2 F s l (j + 1) - endS 2 F s l j := by
  have a := (fair g i hi).2
  have b := (fair g j hj).1
  have hT := g.tot
  have hs : s * l[i] ≤ s * l[j] := Int.mul_le_mul_of_nonneg_left h g.s1
  generalize endS 2 F s l (i + 1) - endS 2 F s l i = u at *
  generalize endS 2 F s l (j + 1) - endS 2 F s l j = v at *
  have key : ¬ ((v - l[j]) - (u - l[i]) ≤ -2) := fun hx => by
    have h1 := Int.mul_le_mul_of_nonneg_right hx (show 0 ≤ totS l by omega)
    rw [Int.sub_mul] at h1
    omega
  omega
theorem fair_l0 {s : Int} {l : List Int} {c : List S71} (hl : l.length ≤ 16) (hx : ∀ x ∈ l, 1 ≤ x ∧ x ≤ 4096) (hend : Ev (fun k => liverylaw18_StageFair.l1 k l s c (totS l) 0) true) :
    ∀ (n i : Nat), l.length - i = n → i ≤ l.length → Ev (fun k => liverylaw18_StageFair.l0 k l s c (totS (l.take i)) (i : Int)) true := by
  intro n
  induction n with
  | zero =>
    intro i hn hi
    have hi2 : i = l.length := by omega
    subst hi2
    rw [List.take_length]
    refine Ev.step (fun k => ?_) hend
    show liverylaw18_StageFair.l0 (k + 1) l s c (totS l) (l.length : Int) = _
    rw [liverylaw18_StageFair.l0, if_neg (by omega)]
  | succ n ih =>
    intro i hn hi
    have hi' : i < l.length := by omega
    have h5 := tot_take hi'
    have h6 := tot_le hx (i + 1)
    have h7 := tot_bound l hx
    have e1 : wrap64 (totS (l.take i) + l[i]) = totS (l.take (i + 1)) := by rw [← h5]; exact w64 (by omega) (by omega)
    have e2 : wrap64 ((i : Int) + 1) = ((i + 1 : Nat) : Int) := w64 (by omega) (by omega)
    refine Ev.step (fun k => ?_) (ih (i + 1) (by omega) hi')
    show liverylaw18_StageFair.l0 (k + 1) l s c (totS (l.take i)) (i : Int) = _
    rw [liverylaw18_StageFair.l0, if_pos (by omega), if_pos (by omega), rd_nat hi', e1, e2]
theorem fair_l2 {F s : Int} {l : List Int} (g : GoodW F s l) (i : Nat) (hi : i < l.length) (hend : Ev (fun k => liverylaw18_StageFair.l1 k l s (winL 2 F s l) (totS l) ((i + 1 : Nat) : Int)) true) :
    ∀ (n j : Nat), l.length - j = n → j ≤ l.length → Ev (fun k => liverylaw18_StageFair.l2 k l s (winL 2 F s l) (totS l) (i : Int) (j : Int)) true := by
  intro n
  have n2 := g.n2
  have d0 : wrap64 ((i : Int) + 1) = ((i + 1 : Nat) : Int) := w64 (by omega) (by omega)
  induction n with
  | zero =>
    intro j hn hj
    refine Ev.step (fun k => ?_) hend
    show liverylaw18_StageFair.l2 (k + 1) l s (winL 2 F s l) (totS l) (i : Int) (j : Int) = _
    rw [liverylaw18_StageFair.l2, if_neg (by omega), d0]
  | succ n ih =>
    intro j hn hj
    have hj' : j < l.length := by omega
    have IH := ih (j + 1) (by omega) hj'
    have d1 : wrap64 ((j : Int) + 1) = ((j + 1 : Nat) : Int) := w64 (by omega) (by omega)
    have hf := fair_two g i j hi hj'
    have r1 := end_range g 2 (by omega) i (by omega)
    have r2 := end_range g 2 (by omega) (i + 1) hi
    have r3 := end_range g 2 (by omega) j (by omega)
    have r4 := end_range g 2 (by omega) (j + 1) hj'
    have f1 := g.f1
    have f2 := g.f2
    have ewi := winL_at (q := 2) (F := F) (s := s) hi
    have ewj := winL_at (q := 2) (F := F) (s := s) hj'
    have hlen := winL_len 2 F s l
    have xi := rd_nat hi
    have xj := rd_nat hj'
    refine Ev.step (fun k => ?_) IH
    show liverylaw18_StageFair.l2 (k + 1) l s (winL 2 F s l) (totS l) (i : Int) (j : Int) = liverylaw18_StageFair.l2 k l s (winL 2 F s l) (totS l) (i : Int) ((j + 1 : Nat) : Int)
    rw [liverylaw18_StageFair.l2, hlen, ewi, ewj, xi, xj, d1]
    dsimp only
    clear ih IH hend ewi ewj xi xj hlen d0 d1 g
    generalize winL 2 F s l = c at *
    generalize endS 2 F s l (i + 1) = a at *
    generalize endS 2 F s l i = b at *
    generalize endS 2 F s l (j + 1) = e at *
    generalize endS 2 F s l j = f at *
    generalize l[i] = li at *
    generalize l[j] = lj at *
    have w1 : wrap64 (e - f) = e - f := w64 (by omega) (by omega)
    have w2 : wrap64 (a - b) = a - b := w64 (by omega) (by omega)
    have w3 : wrap64 (a - b - 1) = a - b - 1 := w64 (by omega) (by omega)
    rw [w1, w2, w3]
    clear w1 w2 w3 r1 r2 r3 r4 f1 f2
    rw [if_pos (by omega), if_pos (by omega), if_pos (by omega), if_pos (by omega)]
    by_cases h : lj ≥ li
    · have := hf h
      rw [if_pos h, if_pos (by omega), if_pos (by omega), if_neg (by omega)]
    · rw [if_neg h]
theorem fair_l1 {F s : Int} {l : List Int} (g : GoodW F s l) (hhead : Ev (fun k => liverylaw18_head.f k) true) :
    ∀ (n i : Nat), l.length - i = n → i ≤ l.length → Ev (fun k => liverylaw18_StageFair.l1 k l s (winL 2 F s l) (totS l) (i : Int)) true := by
  intro n
  induction n with
  | zero =>
    intro i hn hi
    refine Ev.step (f := fun k => (liverylaw18_head.f k).bind fun t => some t) (fun k => ?_) (Ev.bind hhead (Ev.now true))
    show liverylaw18_StageFair.l1 (k + 1) l s (winL 2 F s l) (totS l) (i : Int) = _
    rw [liverylaw18_StageFair.l1, if_neg (by omega)]
  | succ n ih =>
    intro i hn hi
    have hi' : i < l.length := by omega
    have IH := fair_l2 g i hi' (ih (i + 1) (by omega) hi') l.length 0 (by omega) (by omega)
    have hf := fair g i hi'
    have hg := gap g 2 (by omega) i hi'
    have n2 := g.n2
    have r1 := end_range g 2 (by omega) i (by omega)
    have r2 := end_range g 2 (by omega) (i + 1) hi'
    have f1 := g.f1
    have f2 := g.f2
    have s1 := g.s1
    have s2 := g.s2
    have hT := g.tot
    have hx := g.each l[i] (List.getElem_mem hi')
    have ewi := winL_at (q := 2) (F := F) (s := s) hi'
    have hlen := winL_len 2 F s l
    have xi := rd_nat hi'
    have b1 : 0 ≤ s * l[i] ∧ s * l[i] ≤ 16777216 := ⟨Int.mul_nonneg s1 (by omega), Int.le_trans (Int.mul_le_mul s2 hx.2 (by omega) (by omega)) (by omega)⟩
    refine Ev.step (f := fun k => liverylaw18_StageFair.j3 k l s (winL 2 F s l) (totS l) (i : Int) false) (fun k => ?_) (Ev.step (fun k => ?_) IH)
    · show liverylaw18_StageFair.l1 (k + 1) l s (winL 2 F s l) (totS l) (i : Int) = _
      rw [liverylaw18_StageFair.l1, hlen, ewi, xi]
      dsimp only
      obtain ⟨g1, g2, _⟩ := hg
      clear ih IH ewi xi hlen g
      generalize winL 2 F s l = c at *
      generalize endS 2 F s l (i + 1) = a at *
      generalize endS 2 F s l i = b at *
      generalize l[i] = li at *
      generalize totS l = all at *
      have w1 : wrap64 (a - b) = a - b := w64 (by omega) (by omega)
      have w2 : wrap64 (a - b - li) = a - b - li := w64 (by omega) (by omega)
      have w4 : wrap64 (s * li) = s * li := w64 (by omega) (by omega)
      obtain ⟨hf1, hf2⟩ := hf
      rw [w1, w2, w4]
      clear w1 w2 w4
      generalize (a - b - li) * all = X at *
      generalize s * li = Y at *
      have w3 : wrap64 X = X := w64 (by omega) (by omega)
      have w5 : wrap64 (Y - all) = Y - all := w64 (by omega) (by omega)
      have w6 : wrap64 (Y + all) = Y + all := w64 (by omega) (by omega)
      rw [w3, w5, w6]
      clear w3 w5 w6
      rw [if_pos (by omega), if_pos (by omega), if_pos (by omega), if_neg (by omega), decide_eq_false (by omega)]
    · show liverylaw18_StageFair.j3 (k + 1) l s (winL 2 F s l) (totS l) (i : Int) false = _
      rw [liverylaw18_StageFair.j3, if_neg (by decide)]
      rfl
theorem split_bad {F T : Int} {l : List Int} (h : (checkR F T l).2 ≠ 0) : St.splitR F T l 2 (checkR F T l).1 (checkR F T l).2 = some ([], (checkR F T l).2) := by
  unfold St.splitR
  by_cases h2 : (checkR F T l).2 = 2
  · rw [if_pos h2, h2]
  · rw [if_neg h2, if_neg (by decide), if_pos h]
theorem StageFair (a0_0 a0_1 : Int) (a1 : List Int) (w0 : ((Lit.int .i64 a0_0).wf = true) ∧ ((Lit.int .i64 a0_1).wf = true)) (w1 : (a1.length ≤ maxLen ∧ ∀ x ∈ a1, (Lit.int .i64 x).wf = true)) : ∃ k, liverylaw18_StageFair.f k a0_0 a0_1 a1 = some true := by
  have b1 := XOpen.i64_of w0.1
  have b2 := XOpen.i64_of w0.2
  have hl : a1.length ≤ 9223372036854775807 := w1.1
  have hhead := head_ev
  have hj : ∀ s c, Ev (fun k => liverylaw18_StageFair.j0 k a1 s c true) true := fun s c => by
    refine Ev.step (f := fun k => (liverylaw18_head.f k).bind fun t => some t) (fun k => ?_) ?_
    · show liverylaw18_StageFair.j0 (k + 1) a1 s c true = _
      rw [liverylaw18_StageFair.j0, if_pos rfl]
    · exact Ev.bind hhead (Ev.now true)
  refine Ev.rounds ?_
  refine Ev.congr (f := fun k => (stage_Slack.f k a0_0 a0_1 a1).bind fun bt212 => ((stage_Split.f k a0_0 a0_1 a1 2).bind fun bt214 => (if (a1.length : Int) > 40 then (liverylaw18_StageFair.j0 k a1 bt212.1 bt214.1 true) else (if bt212.2 = 0 then (liverylaw18_StageFair.j0 k a1 bt212.1 bt214.1 (bt214.2 != 0)) else (liverylaw18_StageFair.j0 k a1 bt212.1 bt214.1 true))))) (fun k => rfl) ?_
  have hs := slack_ev a0_0 a0_1 a1 hl
  by_cases he : (checkR a0_0 a0_1 a1).2 = 0
  · rw [if_pos he] at hs
    obtain ⟨g, hc⟩ := check_ok b1 b2 he
    have hsp := split_good b1 b2 he 2 (by omega)
    have h := split_ev a0_0 a0_1 a1 hl 2 hsp
    rw [hc] at hs
    have h1 := g.n1; have h2 := g.n2; have h3 := g.lt; have h4 := g.len
    have h5 := tot_bound a1 g.each
    have e1 : wrap64 (a0_1 - a0_0) = a0_1 - a0_0 := w64 (by omega) (by omega)
    have e2 : wrap64 (a0_1 - a0_0 - totS a1) = a0_1 - a0_0 - totS a1 := w64 (by omega) (by omega)
    dsimp only at hs
    rw [e1, e2] at hs
    clear hsp
    obtain ⟨s, hse⟩ : ∃ s, a0_1 - a0_0 - totS a1 = s := ⟨_, rfl⟩
    rw [hse] at hs h
    refine Ev.bind hs ?_
    by_cases hn : s < 0
    · rw [if_pos (by omega)] at h
      refine Ev.bind h (Ev.congr (f := fun k => liverylaw18_StageFair.j0 k a1 s [] true) (fun k => ?_) (hj s []))
      rw [if_neg (by omega), if_pos rfl]
      rfl
    · rw [if_neg (by omega)] at h
      have gw : GoodW a0_0 s a1 := ⟨h1, h2, g.f1, g.f2, by omega, by omega, g.each⟩
      have L1 := fair_l1 gw hhead a1.length 0 (by omega) (by omega)
      have L0 := fair_l0 (s := s) (c := winL 2 a0_0 s a1) h2 g.each L1 a1.length 0 (by omega) (by omega)
      refine Ev.bind h (Ev.congr (f := fun k => liverylaw18_StageFair.j0 k a1 s (winL 2 a0_0 s a1) false) (fun k => ?_) (Ev.step (fun k => ?_) L0))
      · rw [if_neg (by omega), if_pos rfl]
        rfl
      · show liverylaw18_StageFair.j0 (k + 1) a1 s (winL 2 a0_0 s a1) false = _
        rw [liverylaw18_StageFair.j0, if_neg (by decide), winL_len, if_pos rfl]
        rfl
  · rw [if_neg he] at hs
    have h := split_ev a0_0 a0_1 a1 hl 2 (split_bad he)
    refine Ev.bind hs (Ev.bind h (Ev.congr (f := fun k => liverylaw18_StageFair.j0 k a1 0 [] true) (fun k => ?_) (hj 0 [])))
    dsimp only
    rw [if_neg he]
    split <;> rfl
end
end Go.Proofs.Ytkaokiiooakleaa.PStageFair
