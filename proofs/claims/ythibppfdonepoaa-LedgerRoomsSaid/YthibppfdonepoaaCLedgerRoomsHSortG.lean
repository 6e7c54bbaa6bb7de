/- Sorting in place: patterns are broken. -/
import Derived.Test.YthibppfdonepoaaCLedgerRoomsHSortH
import Derived.Sort.Lot0
set_option linter.unusedVariables false
namespace Go.Proofs.Ythibppfdonepoaa.Srt
open Go.RowKit Go.Proofs.Ythibppfdonepoaa.XBut Go.Proofs.YthibppfdonepoaaW.PrintWords Go.Proofs.YthibppfdonepoaaW.PrintLast
theorem u64_range (op : BinOp) (a b : Int) : 0 ≤ IntKind.u64.wrap a ∧ IntKind.u64.wrap a < 18446744073709551616 := by
  have e : IntKind.u64.wrap a = a % 18446744073709551616 := rfl
  omega
theorem xor_range (a b : Int) : 0 ≤ bits BinOp.xor IntKind.u64 a b ∧ bits BinOp.xor IntKind.u64 a b < 18446744073709551616 := by
  simp only [bits]
  exact u64_range .xor _ 0
def Rand (gx : Nat) (w : World) (e : Ending) (w' : World) : Prop := ∃ r : Int, 0 ≤ r ∧ r < 18446744073709551616 ∧ e = .returned (.int .u64 r) ∧ w'.heap[gx]? = some (.cells #[.int .u64 r] 254 (0, 0)) ∧ But (fun k => k = gx) w w'
theorem stored {gx : Nat} {w : World} {v : Value} (hs : w.heap[gx]? = some (.cells #[v] 254 (0, 0))) (r : Value) : ((w.setCell ⟨gx, 0, none⟩ r).drew).heap[gx]? = some (.cells #[r] 254 (0, 0)) :=
  show (w.setCell ⟨gx, 0, none⟩ r).heap[gx]? = _ by simpa using blk_set (g := gx) hs 0 r
set_option maxHeartbeats 8000000 in
theorem next (gx : Nat) (v : Int) (w : World) (hs : w.heap[gx]? = some (.cells #[.int .u64 v] 254 (0, 0))) :
    Calls Try.prog 184 #[.pointer (some ⟨gx, 0, none⟩)] w (Rand gx w) := by
  have c3 := (blk_cell hs 0).trans rfl
  have f3 := blk_frozen hs 0
  have HS := Aside0.mk hs
  clear hs
  go_enter Try.func184, Try.ntmps184
  go_wp2
  go_region
  all_goals
    obtain ⟨r1, hr1⟩ : ∃ r, bits BinOp.xor IntKind.u64 v (IntKind.u64.wrap (v * 8192)) = r := ⟨_, rfl⟩
    rw [hr1]
    have h1 := stored HS.out (.int .u64 r1)
    have q1 := xor_range v (IntKind.u64.wrap (v * 8192))
    rw [hr1] at q1
    have hB := (((But.refl (fun k => k = gx) w).setCell (b := gx) rfl 0 (.int .u64 r1))).drew
    clear hr1 c3 f3 HS
    generalize (w.setCell ⟨gx, 0, none⟩ (.int .u64 r1)).drew = w1 at h1 hB ⊢
    have HB := Aside0.mk hB
    have HS := Aside0.mk h1
    have c3 := (blk_cell h1 0).trans rfl
    have f3 := blk_frozen h1 0
    obtain ⟨z1, hz1⟩ : ∃ z, r1 / 128 = z := ⟨_, rfl⟩
    clear hB h1
    go_wp2
    go_region
    all_goals
      obtain ⟨r2, hr2⟩ : ∃ r, bits BinOp.xor IntKind.u64 r1 z1 = r := ⟨_, rfl⟩
      rw [hr2]
      have h1 := stored HS.out (.int .u64 r2)
      have hB := ((HB.out.setCell (b := gx) rfl 0 (.int .u64 r2))).drew
      have q2 := xor_range r1 z1
      rw [hr2] at q2
      clear hr2 c3 f3 HS HB hz1 q1
      generalize (w1.setCell ⟨gx, 0, none⟩ (.int .u64 r2)).drew = w2 at h1 hB ⊢
      have HB := Aside0.mk hB
      have HS := Aside0.mk h1
      have c3 := (blk_cell h1 0).trans rfl
      have f3 := blk_frozen h1 0
      clear hB h1
      go_wp2
      go_region
      all_goals
        obtain ⟨r3, hr3⟩ : ∃ r, bits BinOp.xor IntKind.u64 r2 (IntKind.u64.wrap (r2 * 131072)) = r := ⟨_, rfl⟩
        rw [hr3]
        have h1 := stored HS.out (.int .u64 r3)
        have hB := ((HB.out.setCell (b := gx) rfl 0 (.int .u64 r3))).drew
        have q3 := xor_range r2 (IntKind.u64.wrap (r2 * 131072))
        rw [hr3] at q3
        clear hr3 c3 f3 HS HB q2
        generalize (w2.setCell ⟨gx, 0, none⟩ (.int .u64 r3)).drew = w3 at h1 hB ⊢
        have HB := Aside0.mk hB
        have HS := Aside0.mk h1
        have c3 := (blk_cell h1 0).trans rfl
        clear hB h1
        go_wp2
        go_ret
        exact ⟨r3, q3.1, q3.2, rfl, HS.out, HB.out⟩
def Pow (m : Nat) (w : World) (e : Ending) (w' : World) : Prop := ∃ r : Nat, 1 ≤ r ∧ r ≤ 61 ∧ 2 ^ r ≤ 2 * m ∧ e = .returned (.int .u64 ((2 ^ r : Nat) : Int)) ∧ w' = w
set_option maxHeartbeats 8000000 in
theorem nextPow (m : Nat) (w : World) (h8 : 8 ≤ m) (hm : m ≤ 1152921504606846976) : Calls Try.prog 183 #[.int .i64 m] w (Pow m w) := by
  go_enter Try.func183, Try.ntmps183
  go_wp2_with fail
  refine (len m _ hm).mono ?_
  rintro e w' ⟨r, hr, rfl, rfl⟩
  obtain ⟨q1, q2, q3⟩ := hr.2 (by omega)
  have hr61 : r ≤ 61 := by
    have := (Nat.pow_le_pow_iff_right (a := 2) (by omega) (n := r - 1) (m := 60)).1 (by omega)
    omega
  have hp : 2 ^ r = 2 * 2 ^ (r - 1) := by
    conv => lhs; rw [show r = (r - 1) + 1 by omega]
    rw [Nat.pow_succ]; omega
  have h64 : 2 ^ r ≤ 2 * m := by omega
  have HR := Aside0.mk (And.intro h64 hp)
  have r0 : (0 : Int) ≤ (r : Int) := by omega
  have r1 : (r : Int) < 64 := by omega
  have r2 : (r : Int) < 62 := by omega
  clear hr q2 q3 hp h64
  have e : IntKind.u64.wrap (2 ^ r) = ((2 ^ r : Nat) : Int) := by
    have e1 : ((2 : Int) ^ r) = ((2 ^ r : Nat) : Int) := by simp
    rw [e1]
    have h9 := HR.out.1
    generalize 2 ^ r = p at h9 ⊢
    show ((p : Nat) : Int) % 18446744073709551616 = _
    omega
  have HE := Aside0.mk e
  clear e
  go_wp2
  go_ret
  exact ⟨r, q1, hr61, HR.out.1, by rw [HE.out]; rfl, rfl⟩
def Broken (w : World) (g : Nat) (t : TypeId) (c a b n : Nat) (d : Array Int) (e : Ending) (w' : World) : Prop := ∃ d' : Array Int, d'.size = n ∧ Sort.PermIn a b d d' ∧ e = .returned (.tuple #[]) ∧ Row w' g t c d' ∧ But (fun k => k = g) w w'
theorem wraps_u64 (n : Int) (h0 : 0 ≤ n) (h1 : n < 2 ^ 64) : IntKind.u64.wrap n = n := by
  show n % 18446744073709551616 = n
  have : (2 : Int) ^ 64 = 18446744073709551616 := by decide
  omega
theorem and_mask (r : Int) (k : Nat) (hk : k ≤ 61) (h0 : 0 ≤ r) (h1 : r < 18446744073709551616) : ∃ o : Nat, bits BinOp.and IntKind.u64 r (((2 ^ k : Nat) : Int) - 1) = (o : Int) ∧ o < 2 ^ k := by
  have h64 : (2 : Int) ^ 64 = 18446744073709551616 := by decide
  have e := bits_mask .u64 64 (by decide) wraps_u64 k (by omega) r h0 (by omega)
  have e2 : ((2 : Int) ^ k) = ((2 ^ k : Nat) : Int) := by simp
  have e1 : (((2 ^ k : Nat) : Int) - 1) = 2 ^ k - 1 := by rw [e2]
  rw [e1, e, e2]
  have hp := Nat.two_pow_pos k
  generalize 2 ^ k = p at hp ⊢
  have h2 := Int.emod_lt_of_pos r (show (0 : Int) < (p : Int) by omega)
  have h3 := Int.emod_nonneg r (show (p : Int) ≠ 0 by omega)
  exact ⟨(r % (p : Int)).toNat, by omega, by omega⟩
set_option maxHeartbeats 32000000 in
set_option maxRecDepth 100000 in
theorem breakPatterns (g : Nat) (t : TypeId) (c cap a b n : Nat) (d : Array Int) (w : World) (hn : d.size = n) (hR : Row w g t c d) (hab : a ≤ b) (hb : b ≤ n) (hd : n ≤ 1152921504606846976) :
    Calls Try.prog 170 #[.slice (some ⟨g, 0, none⟩) n cap, .int .i64 a, .int .i64 b] w (Broken w g t c a b n d) := by
  obtain ⟨l, hl⟩ : ∃ l, l = b - a := ⟨_, rfl⟩
  have e0 : (b : Int) - (a : Int) = (l : Int) := by omega
  have hle : a + l ≤ b ∧ b ≤ a + l := by omega
  by_cases h8 : 8 ≤ l
  · have d8 : decide ((8 : Int) ≤ (l : Int)) = true := decide_eq_true (by omega)
    obtain ⟨i1, hi1⟩ : ∃ i1, i1 = a + l / 4 * 2 + 1 := ⟨_, rfl⟩
    obtain ⟨i0, hi0⟩ : ∃ i0, i0 = a + l / 4 * 2 - 1 := ⟨_, rfl⟩
    obtain ⟨q, hq⟩ : ∃ q, q = l / 4 := ⟨_, rfl⟩
    have e1 : (l : Int) / 4 = (q : Int) := by omega
    have e2 : (a : Int) + (q : Int) * 2 + 1 = (i1 : Int) := by omega
    have e3 : (a : Int) + (q : Int) * 2 - 1 = (i0 : Int) := by omega
    have hii : a ≤ i0 ∧ i0 ≤ i1 ∧ i1 < b := by omega
    have hqn : (0 : Int) ≤ (q : Int) := by omega
    have hqm : (q : Int) ≤ 1152921504606846976 := by omega
    have hg := hR.lt
    have HR := Aside0.mk (And.intro hR hn)
    clear hR hn hl hi1 hi0 hq
    go_enter Try.func170, Try.ntmps170
    go_wp2_with fail
    refine (nextPow l _ h8 (by omega)).mono ?_
    rintro e w' ⟨k, hk1, hk2, hk3, rfl, rfl⟩
    obtain ⟨pw, hpw⟩ : ∃ pw : Nat, 2 ^ k = pw := ⟨_, rfl⟩
    have hpw1 : 1 ≤ pw := by rw [← hpw]; exact Nat.two_pow_pos k
    rw [hpw] at hk3 ⊢
    have HP := Aside0.mk hpw
    have hpI : (1 : Int) ≤ (pw : Int) := by omega
    have hpI2 : (pw : Int) ≤ 2305843009213693952 := by omega
    clear hpw
    go_wp2
    obtain ⟨hR, hn⟩ := HR.out
    have hN0 : New w (w.alloc (.cells #[.int .u64 (l : Int)] 254)) := Counts.new (But.refl _ _)
    have hE := hR.but hN0 (fun h => h)
    have hX : (w.alloc (.cells #[.int .u64 (l : Int)] 254)).heap[w.heap.size]? = some (.cells #[.int .u64 (l : Int)] 254 (0, 0)) := blk_new _ _
    go_loopg [9] (i1 + 1 - i0) (fun kk v9 wr => ∃ (x : Nat) (f : Array Int) (v : Int), v9 = .int .i64 x ∧ kk = i1 + 1 - x ∧ i0 ≤ x ∧ x ≤ i1 + 1 ∧ f.size = n ∧ Row wr g t c f ∧ wr.heap[w.heap.size]? = some (.cells #[.int .u64 v] 254 (0, 0)) ∧ But (fun k => k = g ∨ k = w.heap.size) (w.alloc (.cells #[.int .u64 (l : Int)] 254)) wr ∧ Sort.PermIn a b d f)
    case atStart => exact ⟨i0, d, (l : Int), rfl, rfl, Nat.le_refl _, by omega, hn, hE, hX, But.refl _ _, Sort.permIn_refl d a b⟩
    obtain ⟨x, f, v, rfl, rfl, hx1, hx2, hS, hE, hX, hB, hP⟩ := hrel
    clear hR hn hN0 HR
    by_cases hxi : x ≤ i1
    · have dx : decide ((x : Int) ≤ (i1 : Int)) = true := decide_eq_true (by omega)
      have dx2 : decide (x ≤ i1) = true := decide_eq_true (by omega)
      have HE := Aside0.mk (And.intro hE (And.intro hX (And.intro hB (And.intro hP hS))))
      clear hE hX hB hP hS
      go_wp2_with fail
      refine (next w.heap.size v _ HE.out.2.1).mono ?_
      rintro e w2 ⟨r, hr0, hr1, rfl, hX, hB2⟩
      obtain ⟨o, ho, ho2⟩ := and_mask r k (by omega) hr0 hr1
      rw [HP.out] at ho ho2
      obtain ⟨hE, _, hB, hP, hS⟩ := HE.out
      have hE := hE.but hB2 (by omega)
      have hB := hB.trans (hB2.mono (fun _ => .inr))
      have hoI : (0 : Int) ≤ (o : Int) := by omega
      clear HE hB2 hr0 hr1
      by_cases hol : l ≤ o
      · have dl : decide ((l : Int) ≤ (o : Int)) = true := decide_eq_true (by omega)
        have dl2 : decide (l ≤ o) = true := decide_eq_true (by omega)
        obtain ⟨o2, ho3⟩ : ∃ o2, o2 = o - l := ⟨_, rfl⟩
        have ho4 : (o : Int) - (l : Int) = (o2 : Int) := by omega
        obtain ⟨jj, hjj⟩ : ∃ jj, jj = a + o2 := ⟨_, rfl⟩
        have hjI : (a : Int) + (o2 : Int) = (jj : Int) := by omega
        have hj2 : a ≤ jj ∧ jj < b := by omega
        clear hjj ho3
        go_wp2
        obtain ⟨v9, hy9⟩ : ∃ v, (w2.setCell ⟨g, x, none⟩ (.int .u32 f[jj]!)).cell? ⟨g, jj, none⟩ = some v := ⟨_, (hE.set (by omega) _).cell (by simp; omega)⟩
        have c1 := hE.cell (j := x) (by omega)
        have c2 := hE.cell (j := jj) (by omega)
        have f1 := hE.free x
        have f2 := hE.free jj
        have hN : x < f.size ∧ jj < f.size := by omega
        have hsw := (hE.swp hN.1 hN.2).drew
        have hbt := (hB.trans ((But.two (g := g) w2 x jj (.int .u32 f[jj]!) (.int .u32 f[x]!)).mono (fun _ => .inl))).drew
        have hX9 : (((w2.setCell ⟨g, x, none⟩ (.int .u32 f[jj]!)).setCell ⟨g, jj, none⟩ (.int .u32 f[x]!)).drew).heap[w.heap.size]? = some (.cells #[.int .u64 r] 254 (0, 0)) := (But.two (g := g) w2 x jj (.int .u32 f[jj]!) (.int .u32 f[x]!)).drew.heap hX (by omega)
        have hP9 := Sort.permIn_trans d f (Sort.swp f x jj) a b hP (Sort.swp_permIn f a b x jj (by omega) (by omega) (by omega) (by omega) (by omega))
        have hS9 : (Sort.swp f x jj).size = n := by rw [swp_size]; omega
        obtain ⟨y1, hy1⟩ : ∃ y, f[x]! = y := ⟨_, rfl⟩
        obtain ⟨y2, hy2⟩ : ∃ y, f[jj]! = y := ⟨_, rfl⟩
        rw [hy1] at c1 hsw hbt hX9
        rw [hy2] at c2 hsw hbt hy9 hX9
        have b1 : (0 : Int) ≤ (x : Int) := by omega
        have b2 : (x : Int) < (n : Int) := by omega
        have b3 : (0 : Int) ≤ (jj : Int) := by omega
        have b4 : (jj : Int) < (n : Int) := by omega
        have HW := Aside0.mk (And.intro hsw (And.intro hbt (And.intro hX9 (And.intro hP9 hS9))))
        clear hE hB hX hP hN hy1 hy2 hsw hbt hX9 hP9 hS9
        go_wp2
        go_region
        all_goals
          go_wp2
          go_roundg (i1 + 1 - (x + 1))
          case measure => omega
          case rel =>
            obtain ⟨hsw, hbt, hX9, hP9, hS9⟩ := HW.out
            exact ⟨x + 1, _, r, by go_num, rfl, by omega, by omega, hS9, hsw, hX9, hbt, hP9⟩
      · have dl : decide ((l : Int) ≤ (o : Int)) = false := decide_eq_false (by omega)
        have dl2 : decide (l ≤ o) = false := decide_eq_false (by omega)
        obtain ⟨jj, hjj⟩ : ∃ jj, jj = a + o := ⟨_, rfl⟩
        have hjI : (a : Int) + (o : Int) = (jj : Int) := by omega
        have hj2 : a ≤ jj ∧ jj < b := by omega
        clear hjj
        go_wp2
        obtain ⟨v9, hy9⟩ : ∃ v, (w2.setCell ⟨g, x, none⟩ (.int .u32 f[jj]!)).cell? ⟨g, jj, none⟩ = some v := ⟨_, (hE.set (by omega) _).cell (by simp; omega)⟩
        have c1 := hE.cell (j := x) (by omega)
        have c2 := hE.cell (j := jj) (by omega)
        have f1 := hE.free x
        have f2 := hE.free jj
        have hN : x < f.size ∧ jj < f.size := by omega
        have hsw := (hE.swp hN.1 hN.2).drew
        have hbt := (hB.trans ((But.two (g := g) w2 x jj (.int .u32 f[jj]!) (.int .u32 f[x]!)).mono (fun _ => .inl))).drew
        have hX9 : (((w2.setCell ⟨g, x, none⟩ (.int .u32 f[jj]!)).setCell ⟨g, jj, none⟩ (.int .u32 f[x]!)).drew).heap[w.heap.size]? = some (.cells #[.int .u64 r] 254 (0, 0)) := (But.two (g := g) w2 x jj (.int .u32 f[jj]!) (.int .u32 f[x]!)).drew.heap hX (by omega)
        have hP9 := Sort.permIn_trans d f (Sort.swp f x jj) a b hP (Sort.swp_permIn f a b x jj (by omega) (by omega) (by omega) (by omega) (by omega))
        have hS9 : (Sort.swp f x jj).size = n := by rw [swp_size]; omega
        obtain ⟨y1, hy1⟩ : ∃ y, f[x]! = y := ⟨_, rfl⟩
        obtain ⟨y2, hy2⟩ : ∃ y, f[jj]! = y := ⟨_, rfl⟩
        rw [hy1] at c1 hsw hbt hX9
        rw [hy2] at c2 hsw hbt hy9 hX9
        have b1 : (0 : Int) ≤ (x : Int) := by omega
        have b2 : (x : Int) < (n : Int) := by omega
        have b3 : (0 : Int) ≤ (jj : Int) := by omega
        have b4 : (jj : Int) < (n : Int) := by omega
        have HW := Aside0.mk (And.intro hsw (And.intro hbt (And.intro hX9 (And.intro hP9 hS9))))
        clear hE hB hX hP hN hy1 hy2 hsw hbt hX9 hP9 hS9
        go_wp2
        go_region
        all_goals
          go_wp2
          go_roundg (i1 + 1 - (x + 1))
          case measure => omega
          case rel =>
            obtain ⟨hsw, hbt, hX9, hP9, hS9⟩ := HW.out
            exact ⟨x + 1, _, r, by go_num, rfl, by omega, by omega, hS9, hsw, hX9, hbt, hP9⟩
    · have dx : decide ((x : Int) ≤ (i1 : Int)) = false := decide_eq_false (by omega)
      have dx2 : decide (x ≤ i1) = false := decide_eq_false (by omega)
      have hfin : But (fun k => k = g) w wr := ⟨hB.os, hB.tape, hB.output, Nat.le_trans (by simp) hB.size, fun k hk hn => (hB.block k (by simp; omega) (by omega)).trans (Below.heap_alloc _ _ _ (by omega))⟩
      have HE := Aside0.mk (And.intro hE (And.intro hfin (And.intro hP hS)))
      clear hE hX hB hP hS hfin
      go_wp2
      go_end0
      exact ⟨f, HE.out.2.2.2, HE.out.2.2.1, rfl, HE.out.1, HE.out.2.1⟩
  · have d8 : decide ((8 : Int) ≤ (l : Int)) = false := decide_eq_false (by omega)
    have HR := Aside0.mk (And.intro hR hn)
    clear hR hn hl
    go_enter Try.func170, Try.ntmps170
    go_wp2
    go_end0
    exact ⟨d, HR.out.2, Sort.permIn_refl d a b, rfl, HR.out.1, But.refl _ _⟩
end Go.Proofs.Ythibppfdonepoaa.Srt
