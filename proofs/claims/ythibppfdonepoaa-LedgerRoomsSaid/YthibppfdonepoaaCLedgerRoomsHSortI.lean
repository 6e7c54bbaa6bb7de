/- Sorting in place: the whole. -/
import Derived.Test.YthibppfdonepoaaCLedgerRoomsHSortB
import Derived.Test.YthibppfdonepoaaCLedgerRoomsHSortC
import Derived.Test.YthibppfdonepoaaCLedgerRoomsHSortD
import Derived.Test.YthibppfdonepoaaCLedgerRoomsHSortE
import Derived.Test.YthibppfdonepoaaCLedgerRoomsHSortG
import Derived.Sort.AssemblyPlain
set_option linter.unusedVariables false
namespace Go.Proofs.Ythibppfdonepoaa.Srt
open Go.RowKit Go.Proofs.Ythibppfdonepoaa.XBut Go.Proofs.YthibppfdonepoaaW.PrintWords Go.Proofs.YthibppfdonepoaaW.PrintLast
theorem swo : Sort.SWO Sort.ltInt := by
  constructor <;> intros <;> simp only [Sort.ltInt, decide_eq_true_eq, decide_eq_false_iff_not] at * <;> omega
theorem insertionN {g : Nat} {t : TypeId} {c cap a b n : Nat} {d : Array Int} {w : World} (hn : d.size = n) (hR : Row w g t c d) (hb : b ≤ n) (hd : n ≤ 1152921504606846976) (ha : a ≤ b) :
    Calls Try.prog 168 #[.slice (some ⟨g, 0, none⟩) n cap, .int .i64 a, .int .i64 b] w (Left w g t c (Sort.insertionSort Sort.ltInt d a b)) := by
  subst hn
  exact insertionSort g t c cap a b d w hR hb hd ha
theorem heapN {g : Nat} {t : TypeId} {c cap a b n : Nat} {d : Array Int} {w : World} (hn : d.size = n) (hR : Row w g t c d) (hb : b ≤ n) (hd : n ≤ 1152921504606846976) (ha : a < b) :
    Calls Try.prog 169 #[.slice (some ⟨g, 0, none⟩) n cap, .int .i64 a, .int .i64 b] w (Left w g t c (Sort.heapSort Sort.ltInt d a b)) := by
  subst hn
  exact heapSort g t c cap a b d w hR hb ha hd
theorem reverseN {g : Nat} {t : TypeId} {c cap a b n : Nat} {d : Array Int} {w : World} (hn : d.size = n) (hR : Row w g t c d) (hb : b ≤ n) (hd : n ≤ 1152921504606846976) (h1 : 1 ≤ b) :
    Calls Try.prog 172 #[.slice (some ⟨g, 0, none⟩) n cap, .int .i64 a, .int .i64 b] w (Left w g t c (Sort.reverseRange d a b)) := by
  subst hn
  exact reverseRange g t c cap a b d w hR hb h1 hd
def Sorts (w : World) (g : Nat) (t : TypeId) (c a b n : Nat) (d : Array Int) (e : Ending) (w' : World) : Prop := ∃ d' : Array Int, d'.size = n ∧ Sort.PermIn a b d d' ∧ Sort.SortedIn Sort.ltInt a b d' ∧ e = .returned (.tuple #[]) ∧ Row w' g t c d' ∧ But (fun k => k = g) w w'
/-- What is known at a round's head. -/
structure Mid (w : World) (g : Nat) (t : TypeId) (c a b n : Nat) (d : Array Int) (x y : Nat) (f : Array Int) (wr : World) : Prop where
  lo : a ≤ x
  mid : x ≤ y
  hi : y ≤ b
  size : f.size = n
  row : Row wr g t c f
  but : But (fun k => k = g) w wr
  below : Sort.Below Sort.ltInt x y f
  fin : ∀ R, Sort.PermIn x y f R → Sort.SortedIn Sort.ltInt x y R → Sort.PermIn a b d R ∧ Sort.SortedIn Sort.ltInt a b R
theorem Mid.perm {w : World} {g : Nat} {t : TypeId} {c a b n : Nat} {d : Array Int} {x y : Nat} {f : Array Int} {wr : World} (h : Mid w g t c a b n d x y f wr) (hb : b ≤ n) {f2 : Array Int} {w2 : World} (hP : Sort.PermIn x y f f2) (hR : Row w2 g t c f2) (hB : But (fun k => k = g) wr w2) : Mid w g t c a b n d x y f2 w2 :=
  { lo := h.lo, mid := h.mid, hi := h.hi, size := hP.1.trans h.size, row := hR, but := h.but.trans hB, below := h.below.perm (by have := h.size; have := h.hi; omega) hP, fin := fun R hR hS => h.fin R (Sort.permIn_trans f f2 R x y hP hR) hS }
theorem Mid.done {w : World} {g : Nat} {t : TypeId} {c a b n : Nat} {d : Array Int} {x y : Nat} {f : Array Int} {wr : World} (h : Mid w g t c a b n d x y f wr) {f2 : Array Int} {w2 : World} (hP : Sort.PermIn x y f f2) (hS : Sort.SortedIn Sort.ltInt x y f2) (hR : Row w2 g t c f2) (hB : But (fun k => k = g) wr w2) : Sorts w g t c a b n d (.returned (.tuple #[])) w2 :=
  ⟨f2, hP.1.trans h.size, (h.fin f2 hP hS).1, (h.fin f2 hP hS).2, rfl, hR, h.but.trans hB⟩
theorem Mid.drewN {w : World} {g : Nat} {t : TypeId} {c : Nat} {a b n : Nat} {d : Array Int} {x y : Nat} {f : Array Int} {wr : World} (h : Mid w g t c a b n d x y f wr) (k : Nat) : Mid w g t c a b n d x y f (wr.drewN k) :=
  { lo := h.lo, mid := h.mid, hi := h.hi, size := h.size, row := h.row, but := h.but.drewN k, below := h.below, fin := h.fin }
set_option maxHeartbeats 64000000 in
set_option maxRecDepth 100000 in
theorem pdq (g : Nat) (t : TypeId) (c cap n : Nat) (hd : n ≤ 1152921504606846976) : ∀ (N a b : Nat) (lim : Int) (d : Array Int) (w : World), b - a ≤ N → d.size = n → Row w g t c d → a ≤ b → b ≤ n → Sort.Below Sort.ltInt a b d →
    Calls Try.prog 150 #[.slice (some ⟨g, 0, none⟩) n cap, .int .i64 a, .int .i64 b, .int .i64 lim] w (Sorts w g t c a b n d) := by
  intro N
  induction N using Nat.strongRecOn with
  | ind N ih =>
    intro a b lim d w hN hn hR hab hb hBel
    have IH := Aside0.mk ih
    have M0 : Mid w g t c a b n d a b d w := { lo := Nat.le_refl _, mid := hab, hi := Nat.le_refl _, size := hn, row := hR, but := But.refl _ _, below := hBel, fin := fun R h1 h2 => ⟨h1, h2⟩ }
    have HM0 := Aside0.mk M0
    clear ih hn hR hBel M0
    go_enter Try.func150, Try.ntmps150
    go_wp2
    have M0 := HM0.out
    go_loopg [1, 2, 3, 8, 9] (b - a) (fun kk v1 v2 v3 v8 v9 wr => ∃ (x y : Nat) (lm : Int) (b8 b9 : Bool) (f : Array Int), v1 = .int .i64 x ∧ v2 = .int .i64 y ∧ v3 = .int .i64 lm ∧ v8 = .bool b8 ∧ v9 = .bool b9 ∧ kk = y - x ∧ Mid w g t c a b n d x y f wr)
    case atStart => exact ⟨a, b, lim, true, true, d, rfl, rfl, rfl, rfl, rfl, rfl, M0⟩
    obtain ⟨x, y, lm, b8, b9, f, rfl, rfl, rfl, rfl, rfl, rfl, M⟩ := hrel
    clear M0 HM0
    have hxy := M.mid
    have hyb := M.hi
    have hax := M.lo
    obtain ⟨l, hl⟩ : ∃ l, l = y - x := ⟨_, rfl⟩
    have hlI : (y : Int) - (x : Int) = (l : Int) := by omega
    have HM := Aside0.mk M
    clear M
    by_cases h12 : l ≤ 12
    · have d12 : decide ((l : Int) ≤ 12) = true := decide_eq_true (by omega)
      clear hl
      go_wp2_with fail
      refine (insertionN HM.out.size HM.out.row (by omega) hd hxy).mono ?_
      rintro e w1 ⟨rfl, hR1, hB1⟩
      have hs := Sort.insertionSort_holds swo f x y hxy (by rw [HM.out.size]; omega)
      have HD := Aside0.mk (HM.out.done hs.1 hs.2 hR1 hB1)
      clear hR1 hB1 hs
      go_wp2
      go_end0
      exact HD.out
    · have d12 : decide ((l : Int) ≤ 12) = false := decide_eq_false (by omega)
      have hlt : x < y := by omega
      by_cases h0 : lm = 0
      · have d0 : (lm == 0) = true := by simp [h0]
        clear hl h0
        go_wp2_with fail
        refine (heapN HM.out.size HM.out.row (by omega) hd hlt).mono ?_
        rintro e w1 ⟨rfl, hR1, hB1⟩
        have hs := Sort.heapSort_holds swo f x y hxy (by rw [HM.out.size]; omega)
        have HD := Aside0.mk (HM.out.done hs.1 hs.2 hR1 hB1)
        clear hR1 hB1 hs
        go_wp2
        go_end0
        exact HD.out
      · have d0 : (lm == 0) = false := by simp [h0]
        clear h0 hl
        go_upto_if 35 with (fail)
        go_cut [3] (fun s3 wx => ∃ (lm : Int) (f2 : Array Int), s3 = .int .i64 lm ∧ Mid w g t c a b n d x y f2 wx)
        case first =>
          cases b8 with
          | true =>
            go_wp2_with fail
            go_meet
            exact ⟨lm, f, rfl, HM.out⟩
          | false =>
            go_wp2_with fail
            refine (breakPatterns g t c cap x y n f _ HM.out.size HM.out.row hxy (by omega) hd).mono ?_
            rintro e w1 ⟨f2, hs2, hP2, rfl, hR2, hB2⟩
            have HD := Aside0.mk (HM.out.perm hb hP2 hR2 hB2)
            clear hs2 hP2 hR2 hB2
            go_wp2_with fail
            go_meet
            exact ⟨_, f2, rfl, HD.out⟩
        case rest =>
          obtain ⟨lm, f, rfl, M⟩ := hcut
          have HM := Aside0.mk M
          clear M
          go_wp2_with fail
          refine (choosePivot g t c cap x y n f _ HM.out.size HM.out.row hlt (by omega) hd).mono ?_
          rintro e w1 ⟨p, h, hp1, hp2, hh, rfl, hN1⟩
          have HM1 := Aside0.mk (HM.out.perm hb (Sort.permIn_refl f x y) (HM.out.row.but hN1 (fun h => h)) (hN1.mono (fun _ h => h.elim)))
          clear hN1 HM hh
          obtain ⟨z2, hz2⟩ : ∃ z, (h == 2) = z := ⟨_, rfl⟩
          go_upto_if 50 with (fail)
          go_cut [11, 12] (fun s11 s12 wx => ∃ (p : Nat) (h : Int) (f2 : Array Int), s11 = .int .i64 p ∧ s12 = .int .i64 h ∧ x ≤ p ∧ p < y ∧ Mid w g t c a b n d x y f2 wx)
          case first =>
            cases z2 with
            | false =>
              go_wp2_with fail
              go_meet
              exact ⟨p, h, f, rfl, rfl, hp1, hp2, HM1.out⟩
            | true =>
              obtain ⟨p2, hp3⟩ : ∃ p2, p2 = (y - 1) - (p - x) := ⟨_, rfl⟩
              have hp4 : (y : Int) - 1 - ((p : Int) - (x : Int)) = (p2 : Int) := by omega
              have hp5 : x ≤ p2 ∧ p2 < y := by omega
              clear hp3
              go_wp2_with fail
              refine (reverseN HM1.out.size HM1.out.row (by omega) hd (by omega)).mono ?_
              rintro e w2 ⟨rfl, hR2, hB2⟩
              have HD := Aside0.mk (HM1.out.perm hb (Sort.reverseRange_holds f x y hxy (by rw [HM1.out.size]; omega)) hR2 hB2)
              clear hR2 hB2
              go_wp2_with fail
              go_meet
              exact ⟨p2, 1, _, rfl, rfl, hp5.1, hp5.2, HD.out⟩
          case rest =>
            obtain ⟨p, h, f, rfl, rfl, hp1, hp2, M⟩ := hcut
            have HM := Aside0.mk M
            clear M HM1 hz2
            obtain ⟨z1, hz1⟩ : ∃ z, (h == 1) = z := ⟨_, rfl⟩
            go_upto_region 15 with (fail)
            go_cut [68] (fun s68 wx => ∃ z, s68 = .bool z ∧ Mid w g t c a b n d x y f wx)
            case first =>
              cases b8 <;> cases b9 <;> cases z1 <;> (go_wp2_with fail; go_meet; exact ⟨_, rfl, HM.out⟩)
            case rest =>
              obtain ⟨z, rfl, M⟩ := hcut
              clear HM
              have HM := Aside0.mk M
              clear M hz1
              go_upto_if 68 with (fail)
              go_cut [] (fun wx => ∃ f2 : Array Int, Mid w g t c a b n d x y f2 wx)
              case first =>
                cases z with
                | false =>
                  go_wp2_with fail
                  go_meet
                  exact ⟨f, HM.out⟩
                | true =>
                  go_wp2_with fail
                  obtain ⟨ps, hps⟩ : ∃ ps, Sort.partialInsertionSort Sort.ltInt f x y = ps := ⟨_, rfl⟩
                  have hpp := Sort.partialInsertionSort_holds swo f x y hlt (by rw [HM.out.size]; omega) HM.out.below
                  refine (partialInsertionSort g t c cap x y n f _ HM.out.size HM.out.row (by omega) hlt hd).mono ?_
                  rw [hps] at hpp ⊢
                  obtain ⟨f2, bs⟩ := ps
                  dsimp only at hpp ⊢
                  rintro e w2 ⟨rfl, hR2, hB2⟩
                  cases bs with
                  | true =>
                    have HD := Aside0.mk (HM.out.done hpp.1 (hpp.2 rfl) hR2 hB2)
                    clear hR2 hB2 hpp hps
                    go_wp2
                    go_end0
                    exact HD.out
                  | false =>
                    have HD := Aside0.mk (HM.out.perm hb hpp.1 hR2 hB2)
                    clear hR2 hB2 hpp hps
                    go_wp2
                    go_meet
                    exact ⟨f2, HD.out⟩
              case rest =>
                obtain ⟨f, M⟩ := hcut
                clear HM
                have HM := Aside0.mk M
                clear M
                obtain ⟨bb, hbb⟩ : ∃ bb, (decide (0 < x) && !Sort.ltInt f[x - 1]! f[p]!) = bb := ⟨_, rfl⟩
                have HBB := Aside0.mk hbb
                clear hbb
                go_upto_region 17 with (fail)
                go_cut [87] (fun s wx => s = .bool bb ∧ Mid w g t c a b n d x y f wx)
                case first =>
                  by_cases hin : 0 < x
                  · have hg1 : decide ((x : Int) > 0) = true := decide_eq_true (by omega)
                    have hg2 : decide (0 < x) = true := decide_eq_true (by omega)
                    obtain ⟨u, hu⟩ : ∃ u, u = x - 1 := ⟨_, rfl⟩
                    have hu2 : (x : Int) - 1 = (u : Int) := by omega
                    have hu3 : IntKind.i64.wrap ((x : Int) - 1) = (u : Int) := by rw [hu2]; exact i64w (by omega)
                    have b1 : (0 : Int) ≤ (u : Int) := by omega
                    have b2 : (u : Int) < (n : Int) := by omega
                    have b3 : (0 : Int) ≤ (p : Int) := by omega
                    have b4 : (p : Int) < (n : Int) := by omega
                    have hsz := HM.out.size
                    have c1 := HM.out.row.cell (j := u) (by omega)
                    have c2 := HM.out.row.cell (j := p) (by omega)
                    have f1 := HM.out.row.free u
                    have f2 := HM.out.row.free p
                    have hbb := HBB.out
                    rw [← hu] at hbb
                    obtain ⟨y1, hy1⟩ : ∃ y, f[u]! = y := ⟨_, rfl⟩
                    obtain ⟨y2, hy2⟩ : ∃ y, f[p]! = y := ⟨_, rfl⟩
                    rw [hy1] at c1 hbb
                    rw [hy2] at c2 hbb
                    clear hy1 hy2 hu hsz
                    obtain ⟨l, hl⟩ : ∃ l, Sort.ltInt y1 y2 = l := ⟨_, rfl⟩
                    rw [hl, hg2] at hbb
                    have hbv : bb = !l := by rw [← hbb]; simp
                    have HV := Aside0.mk hbv
                    clear hbb hbv hin
                    cases l
                    all_goals
                      go_quiet ((go_at_call 174; exact Calls.quiet_of_same (lessv hl _)))
                      go_wp2_with fail
                      go_meet
                      exact ⟨by first | (rw [HV.out]; done) | (rw [HV.out]; rfl), HM.out.drewN _⟩
                  · have hg1 : decide ((x : Int) > 0) = false := decide_eq_false (by omega)
                    have hg2 : decide (0 < x) = false := decide_eq_false (by omega)
                    have hbv : bb = false := by rw [← HBB.out, hg2]; rfl
                    have HV := Aside0.mk hbv
                    clear hbv hin
                    go_quiet (fail)
                    go_wp2_with fail
                    go_meet
                    exact ⟨by rw [HV.out], HM.out.drewN _⟩
                case rest =>
                  obtain ⟨rfl, M⟩ := hcut
                  clear HM
                  have HM := Aside0.mk M
                  clear M
                  cases bb with
                  | true =>
                    have hbb := HBB.out
                    simp only [Bool.and_eq_true, decide_eq_true_eq, Bool.not_eq_true'] at hbb
                    obtain ⟨hx0, hnl⟩ := hbb
                    clear HBB
                    obtain ⟨ps, hps⟩ : ∃ ps, Sort.partitionEqual Sort.ltInt f x y p = ps := ⟨_, rfl⟩
                    go_wp2_with fail
                    refine (partitionEqual g t c cap x y p n f _ HM.out.size HM.out.row (by omega) hp1 hp2 hd).mono ?_
                    rw [hps]
                    obtain ⟨m, f2⟩ := ps
                    have hre := Sort.round_eq swo (Sort.partitionEqual_holds _) hx0 hp1 hp2 (by rw [HM.out.size]; omega) HM.out.below hnl hps
                    obtain ⟨r1, r2, r3, r4, r5⟩ := hre
                    dsimp only
                    rintro e w2 ⟨rfl, hR2, hB2⟩
                    have HD := Aside0.mk (show Mid w g t c a b n d m y f2 w2 from { lo := by omega, mid := r2, hi := hyb, size := r3.trans HM.out.size, row := hR2, but := HM.out.but.trans hB2, below := r4, fin := fun R h1 h2 => HM.out.fin R (r5 R h1 h2).1 (r5 R h1 h2).2 })
                    clear hR2 hB2 r3 r4 r5 hps hnl
                    go_wp2
                    go_roundg (y - m)
                    all_goals first | omega | exact ⟨m, y, lm, b8, b9, f2, rfl, rfl, rfl, rfl, rfl, rfl, HD.out⟩ | skip
                  | false =>
                    clear HBB
                    obtain ⟨ps, hps⟩ : ∃ ps, Sort.partition Sort.ltInt f x y p = ps := ⟨_, rfl⟩
                    go_wp2_with fail
                    refine (partition g t c cap x y p n f _ HM.out.size HM.out.row (by omega) hp1 hp2 hd).mono ?_
                    rw [hps]
                    obtain ⟨m, ap, f2⟩ := ps
                    have hre := Sort.round_part swo (Sort.partition_holds _) hp1 hp2 (by rw [HM.out.size]; omega) HM.out.below hps
                    obtain ⟨r1, r2, r3, r4, r5, r6, r7⟩ := hre
                    dsimp only
                    rintro e w2 ⟨rfl, hR2, hB2⟩
                    have HL := Aside0.mk r6
                    have HG := Aside0.mk r7
                    have HR2 := Aside0.mk (And.intro hR2 (And.intro (HM.out.but.trans hB2) (And.intro (r3.trans HM.out.size) (And.intro r4 r5))))
                    clear hR2 hB2 r3 r4 r5 r6 r7 hps
                    obtain ⟨m1, hm1⟩ : ∃ m1, m1 = m + 1 := ⟨_, rfl⟩
                    have hm2 : (m : Int) + 1 = (m1 : Int) := by omega
                    obtain ⟨lf, hlf⟩ : ∃ lf, lf = m - x := ⟨_, rfl⟩
                    obtain ⟨rg, hrg⟩ : ∃ rg, rg = y - m := ⟨_, rfl⟩
                    have hlf2 : (m : Int) - (x : Int) = (lf : Int) := by omega
                    have hrg2 : (y : Int) - (m : Int) = (rg : Int) := by omega
                    have HN := Aside0.mk (And.intro hm1 (And.intro hlf hrg))
                    have k1 : m < m1 ∧ m1 ≤ y := by omega
                    have k2 : lf ≤ n ∧ rg ≤ n := by omega
                    clear hm1 hlf hrg
                    by_cases hlr : lf < rg
                    · have hlr2 : decide ((lf : Int) < (rg : Int)) = true := decide_eq_true (by omega)
                      go_wp2_with fail
                      refine (IH.out (m - x) (by omega) x m lm f2 _ (Nat.le_refl _) HR2.out.2.2.1 HR2.out.1 r1 (by omega) HR2.out.2.2.2.1).mono ?_
                      rintro e w3 ⟨L, hs3, hP3, hS3, rfl, hR3, hB3⟩
                      have h6 := HL.out L hP3 hS3
                      rw [← HN.out.1] at h6
                      have HD := Aside0.mk (show Mid w g t c a b n d m1 y L w3 from { lo := by omega, mid := k1.2, hi := hyb, size := hs3, row := hR3, but := HR2.out.2.1.trans hB3, below := h6.1, fin := fun R h1 h2 => HM.out.fin R (h6.2 R h1 h2).1 (h6.2 R h1 h2).2 })
                      clear hs3 hP3 hS3 hR3 hB3 h6
                      go_wp2
                      go_roundg (y - m1)
                      all_goals first | omega | exact ⟨m1, y, lm, _, _, L, rfl, rfl, rfl, rfl, rfl, rfl, HD.out⟩ | skip
                    · have hlr2 : decide ((lf : Int) < (rg : Int)) = false := decide_eq_false (by omega)
                      have h5 : Sort.Below Sort.ltInt m1 y f2 := by rw [HN.out.1]; exact HR2.out.2.2.2.2
                      have H5 := Aside0.mk h5
                      clear h5
                      go_wp2_with fail
                      refine (IH.out (y - m1) (by omega) m1 y lm f2 _ (Nat.le_refl _) HR2.out.2.2.1 HR2.out.1 k1.2 (by omega) H5.out).mono ?_
                      rintro e w3 ⟨L, hs3, hP3, hS3, rfl, hR3, hB3⟩
                      rw [HN.out.1] at hP3 hS3
                      have h6 := HG.out L hP3 hS3
                      have HD := Aside0.mk (show Mid w g t c a b n d x m L w3 from { lo := hax, mid := r1, hi := by omega, size := hs3, row := hR3, but := HR2.out.2.1.trans hB3, below := h6.1, fin := fun R h1 h2 => HM.out.fin R (h6.2 R h1 h2).1 (h6.2 R h1 h2).2 })
                      clear hs3 hP3 hS3 hR3 hB3 h6
                      go_wp2
                      go_roundg (m - x)
                      all_goals first | omega | exact ⟨x, m, lm, _, _, L, rfl, rfl, rfl, rfl, rfl, rfl, HD.out⟩ | skip
end Go.Proofs.Ythibppfdonepoaa.Srt
