/- How many bits a number has. (Printed by wip/tool/gensort3.py.) -/
import Derived.Test.YthibppfdonepoaaCLedgerRoomsHSortF
set_option linter.unusedVariables false
namespace Go.Proofs.Ythibppfdonepoaa.Srt
open Go.RowKit Go.Proofs.Ythibppfdonepoaa.XBut Go.Proofs.YthibppfdonepoaaW.PrintWords Go.Proofs.YthibppfdonepoaaW.PrintLast
def tab8 : ByteArray := ⟨#[0, 1, 2, 2, 3, 3, 3, 3, 4, 4, 4, 4, 4, 4, 4, 4, 5, 5, 5, 5, 5, 5, 5, 5, 5, 5, 5, 5, 5, 5, 5, 5, 6, 6, 6, 6, 6, 6, 6, 6, 6, 6, 6, 6, 6, 6, 6, 6, 6, 6, 6, 6, 6, 6, 6, 6, 6, 6, 6, 6, 6, 6, 6, 6, 7, 7, 7, 7, 7, 7, 7, 7, 7, 7, 7, 7, 7, 7, 7, 7, 7, 7, 7, 7, 7, 7, 7, 7, 7, 7, 7, 7, 7, 7, 7, 7, 7, 7, 7, 7, 7, 7, 7, 7, 7, 7, 7, 7, 7, 7, 7, 7, 7, 7, 7, 7, 7, 7, 7, 7, 7, 7, 7, 7, 7, 7, 7, 7, 8, 8, 8, 8, 8, 8, 8, 8, 8, 8, 8, 8, 8, 8, 8, 8, 8, 8, 8, 8, 8, 8, 8, 8, 8, 8, 8, 8, 8, 8, 8, 8, 8, 8, 8, 8, 8, 8, 8, 8, 8, 8, 8, 8, 8, 8, 8, 8, 8, 8, 8, 8, 8, 8, 8, 8, 8, 8, 8, 8, 8, 8, 8, 8, 8, 8, 8, 8, 8, 8, 8, 8, 8, 8, 8, 8, 8, 8, 8, 8, 8, 8, 8, 8, 8, 8, 8, 8, 8, 8, 8, 8, 8, 8, 8, 8, 8, 8, 8, 8, 8, 8, 8, 8, 8, 8, 8, 8, 8, 8, 8, 8, 8, 8, 8, 8, 8, 8, 8, 8, 8, 8, 8, 8, 8, 8, 8, 8]⟩
theorem tab8_size : tab8.size = 256 := by decide +kernel
theorem tab8_len : ∀ i : Fin 256, (tab8[i.val]'(by rw [tab8_size]; exact i.isLt)).toNat ≤ 8 ∧ (1 ≤ i.val → 1 ≤ (tab8[i.val]'(by rw [tab8_size]; exact i.isLt)).toNat ∧ 2 ^ ((tab8[i.val]'(by rw [tab8_size]; exact i.isLt)).toNat - 1) ≤ i.val ∧ i.val < 2 ^ (tab8[i.val]'(by rw [tab8_size]; exact i.isLt)).toNat) := by decide +kernel
/-- r is how many bits m has. -/
def Bits (m r : Nat) : Prop := r ≤ 64 ∧ (1 ≤ m → 1 ≤ r ∧ 2 ^ (r - 1) ≤ m ∧ m < 2 ^ r)
theorem Bits.of {m i l b : Nat} (hi : i = m / 2 ^ b) (h1 : 1 ≤ i ∨ b = 0) (hb : b ≤ 56) (hl : l ≤ 8 ∧ (1 ≤ i → 1 ≤ l ∧ 2 ^ (l - 1) ≤ i ∧ i < 2 ^ l)) : Bits m (b + l) := by
  refine ⟨by omega, fun hm => ?_⟩
  have hi1 : 1 ≤ i := by
    rcases h1 with h | h
    · exact h
    · subst h; simp at hi; omega
  obtain ⟨l1, l2, l3⟩ := hl.2 hi1
  have hp : 0 < 2 ^ b := Nat.two_pow_pos b
  have hd := Nat.div_add_mod m (2 ^ b)
  have hm2 := Nat.mod_lt m hp
  rw [← hi] at hd
  refine ⟨by omega, ?_, ?_⟩
  · have e : b + l - 1 = b + (l - 1) := by omega
    rw [e, Nat.pow_add]
    have := Nat.mul_le_mul_left (2 ^ b) l2
    omega
  · rw [Nat.pow_add]
    have := Nat.mul_le_mul_left (2 ^ b) (show i + 1 ≤ 2 ^ l from l3)
    rw [Nat.mul_add] at this
    omega
set_option maxHeartbeats 8000000 in
set_option maxRecDepth 100000 in
theorem len64_0 (m : Nat) (w : World) (h1 : m < 4294967296) (h2 : m < 65536) (h3 : m < 256) (hm : m ≤ 1152921504606846976) :
    Calls Try.prog 178 #[.int .u64 m] w fun e w' => ∃ r : Nat, Bits m r ∧ e = .returned (.int .i64 r) ∧ w' = w := by
  have d1 : decide ((4294967296 : Int) ≤ (m : Int)) = false := decide_eq_false (by omega)
  have p1 : (0 : Int) ≤ (m : Int) := by omega
  have d2 : decide ((65536 : Int) ≤ (m : Int)) = false := decide_eq_false (by omega)
  have p2 : (0 : Int) ≤ (m : Int) := by omega
  have d3 : decide ((256 : Int) ≤ (m : Int)) = false := decide_eq_false (by omega)
  have p3 : (0 : Int) ≤ (m : Int) := by omega
  have p4 : (0 : Int) ≤ (m : Int) := by omega
  have p5 : (m : Int) < 256 := by omega
  have hf : m < 256 := by omega
  have hx : m = m / 2 ^ 0 := by omega
  have hb := Bits.of (b := 0) hx (.inr rfl) (by omega) (tab8_len ⟨m, hf⟩)
  have hl := (tab8_len ⟨m, hf⟩).1
  have HB := Aside0.mk hb
  have HL := Aside0.mk hl
  clear hx hb hl
  go_enter Try.func178, Try.ntmps178
  go_wp2
  go_ret
  refine ⟨_, HB.out, ?_, rfl⟩
  have hl := HL.out
  show Ending.returned (.int .i64 (wrap64 ( wrap64 ((tab8[m]'(by rw [tab8_size]; exact hf)).toNat : Int)))) = _
  congr 2
  simp only [wrap64] at *
  omega
set_option maxHeartbeats 8000000 in
set_option maxRecDepth 100000 in
theorem len64_8 (m : Nat) (x3 : Nat) (w : World) (h1 : m < 4294967296) (h2 : m < 65536) (h3 : 256 ≤ m) (e3 : (m : Int) / 256 = (x3 : Int)) (hm : m ≤ 1152921504606846976) :
    Calls Try.prog 178 #[.int .u64 m] w fun e w' => ∃ r : Nat, Bits m r ∧ e = .returned (.int .i64 r) ∧ w' = w := by
  have d1 : decide ((4294967296 : Int) ≤ (m : Int)) = false := decide_eq_false (by omega)
  have p1 : (0 : Int) ≤ (m : Int) := by omega
  have d2 : decide ((65536 : Int) ≤ (m : Int)) = false := decide_eq_false (by omega)
  have p2 : (0 : Int) ≤ (m : Int) := by omega
  have d3 : decide ((256 : Int) ≤ (m : Int)) = true := decide_eq_true (by omega)
  have p3 : (0 : Int) ≤ (m : Int) := by omega
  have p4 : (0 : Int) ≤ (x3 : Int) := by omega
  have p5 : (x3 : Int) < 256 := by omega
  have hf : x3 < 256 := by omega
  have hx : x3 = m / 2 ^ 8 := by omega
  have hb := Bits.of (b := 8) hx (.inl (by omega)) (by omega) (tab8_len ⟨x3, hf⟩)
  have hl := (tab8_len ⟨x3, hf⟩).1
  have HB := Aside0.mk hb
  have HL := Aside0.mk hl
  clear hx hb hl
  go_enter Try.func178, Try.ntmps178
  go_wp2
  go_ret
  refine ⟨_, HB.out, ?_, rfl⟩
  have hl := HL.out
  show Ending.returned (.int .i64 (wrap64 (8 + wrap64 ((tab8[x3]'(by rw [tab8_size]; exact hf)).toNat : Int)))) = _
  congr 2
  simp only [wrap64] at *
  omega
set_option maxHeartbeats 8000000 in
set_option maxRecDepth 100000 in
theorem len64_16 (m : Nat) (x2 : Nat) (w : World) (h1 : m < 4294967296) (h2 : 65536 ≤ m) (e2 : (m : Int) / 65536 = (x2 : Int)) (h3 : x2 < 256) (hm : m ≤ 1152921504606846976) :
    Calls Try.prog 178 #[.int .u64 m] w fun e w' => ∃ r : Nat, Bits m r ∧ e = .returned (.int .i64 r) ∧ w' = w := by
  have d1 : decide ((4294967296 : Int) ≤ (m : Int)) = false := decide_eq_false (by omega)
  have p1 : (0 : Int) ≤ (m : Int) := by omega
  have d2 : decide ((65536 : Int) ≤ (m : Int)) = true := decide_eq_true (by omega)
  have p2 : (0 : Int) ≤ (m : Int) := by omega
  have d3 : decide ((256 : Int) ≤ (x2 : Int)) = false := decide_eq_false (by omega)
  have p3 : (0 : Int) ≤ (x2 : Int) := by omega
  have p4 : (0 : Int) ≤ (x2 : Int) := by omega
  have p5 : (x2 : Int) < 256 := by omega
  have hf : x2 < 256 := by omega
  have hx : x2 = m / 2 ^ 16 := by omega
  have hb := Bits.of (b := 16) hx (.inl (by omega)) (by omega) (tab8_len ⟨x2, hf⟩)
  have hl := (tab8_len ⟨x2, hf⟩).1
  have HB := Aside0.mk hb
  have HL := Aside0.mk hl
  clear hx hb hl
  go_enter Try.func178, Try.ntmps178
  go_wp2
  go_ret
  refine ⟨_, HB.out, ?_, rfl⟩
  have hl := HL.out
  show Ending.returned (.int .i64 (wrap64 (16 + wrap64 ((tab8[x2]'(by rw [tab8_size]; exact hf)).toNat : Int)))) = _
  congr 2
  simp only [wrap64] at *
  omega
set_option maxHeartbeats 8000000 in
set_option maxRecDepth 100000 in
theorem len64_24 (m : Nat) (x2 x3 : Nat) (w : World) (h1 : m < 4294967296) (h2 : 65536 ≤ m) (e2 : (m : Int) / 65536 = (x2 : Int)) (h3 : 256 ≤ x2) (e3 : (x2 : Int) / 256 = (x3 : Int)) (hm : m ≤ 1152921504606846976) :
    Calls Try.prog 178 #[.int .u64 m] w fun e w' => ∃ r : Nat, Bits m r ∧ e = .returned (.int .i64 r) ∧ w' = w := by
  have d1 : decide ((4294967296 : Int) ≤ (m : Int)) = false := decide_eq_false (by omega)
  have p1 : (0 : Int) ≤ (m : Int) := by omega
  have d2 : decide ((65536 : Int) ≤ (m : Int)) = true := decide_eq_true (by omega)
  have p2 : (0 : Int) ≤ (m : Int) := by omega
  have d3 : decide ((256 : Int) ≤ (x2 : Int)) = true := decide_eq_true (by omega)
  have p3 : (0 : Int) ≤ (x2 : Int) := by omega
  have p4 : (0 : Int) ≤ (x3 : Int) := by omega
  have p5 : (x3 : Int) < 256 := by omega
  have hf : x3 < 256 := by omega
  have hx : x3 = m / 2 ^ 24 := by omega
  have hb := Bits.of (b := 24) hx (.inl (by omega)) (by omega) (tab8_len ⟨x3, hf⟩)
  have hl := (tab8_len ⟨x3, hf⟩).1
  have HB := Aside0.mk hb
  have HL := Aside0.mk hl
  clear hx hb hl
  go_enter Try.func178, Try.ntmps178
  go_wp2
  go_ret
  refine ⟨_, HB.out, ?_, rfl⟩
  have hl := HL.out
  show Ending.returned (.int .i64 (wrap64 (24 + wrap64 ((tab8[x3]'(by rw [tab8_size]; exact hf)).toNat : Int)))) = _
  congr 2
  simp only [wrap64] at *
  omega
set_option maxHeartbeats 8000000 in
set_option maxRecDepth 100000 in
theorem len64_32 (m : Nat) (x1 : Nat) (w : World) (h1 : 4294967296 ≤ m) (e1 : (m : Int) / 4294967296 = (x1 : Int)) (h2 : x1 < 65536) (h3 : x1 < 256) (hm : m ≤ 1152921504606846976) :
    Calls Try.prog 178 #[.int .u64 m] w fun e w' => ∃ r : Nat, Bits m r ∧ e = .returned (.int .i64 r) ∧ w' = w := by
  have d1 : decide ((4294967296 : Int) ≤ (m : Int)) = true := decide_eq_true (by omega)
  have p1 : (0 : Int) ≤ (m : Int) := by omega
  have d2 : decide ((65536 : Int) ≤ (x1 : Int)) = false := decide_eq_false (by omega)
  have p2 : (0 : Int) ≤ (x1 : Int) := by omega
  have d3 : decide ((256 : Int) ≤ (x1 : Int)) = false := decide_eq_false (by omega)
  have p3 : (0 : Int) ≤ (x1 : Int) := by omega
  have p4 : (0 : Int) ≤ (x1 : Int) := by omega
  have p5 : (x1 : Int) < 256 := by omega
  have hf : x1 < 256 := by omega
  have hx : x1 = m / 2 ^ 32 := by omega
  have hb := Bits.of (b := 32) hx (.inl (by omega)) (by omega) (tab8_len ⟨x1, hf⟩)
  have hl := (tab8_len ⟨x1, hf⟩).1
  have HB := Aside0.mk hb
  have HL := Aside0.mk hl
  clear hx hb hl
  go_enter Try.func178, Try.ntmps178
  go_wp2
  go_ret
  refine ⟨_, HB.out, ?_, rfl⟩
  have hl := HL.out
  show Ending.returned (.int .i64 (wrap64 (32 + wrap64 ((tab8[x1]'(by rw [tab8_size]; exact hf)).toNat : Int)))) = _
  congr 2
  simp only [wrap64] at *
  omega
set_option maxHeartbeats 8000000 in
set_option maxRecDepth 100000 in
theorem len64_40 (m : Nat) (x1 x3 : Nat) (w : World) (h1 : 4294967296 ≤ m) (e1 : (m : Int) / 4294967296 = (x1 : Int)) (h2 : x1 < 65536) (h3 : 256 ≤ x1) (e3 : (x1 : Int) / 256 = (x3 : Int)) (hm : m ≤ 1152921504606846976) :
    Calls Try.prog 178 #[.int .u64 m] w fun e w' => ∃ r : Nat, Bits m r ∧ e = .returned (.int .i64 r) ∧ w' = w := by
  have d1 : decide ((4294967296 : Int) ≤ (m : Int)) = true := decide_eq_true (by omega)
  have p1 : (0 : Int) ≤ (m : Int) := by omega
  have d2 : decide ((65536 : Int) ≤ (x1 : Int)) = false := decide_eq_false (by omega)
  have p2 : (0 : Int) ≤ (x1 : Int) := by omega
  have d3 : decide ((256 : Int) ≤ (x1 : Int)) = true := decide_eq_true (by omega)
  have p3 : (0 : Int) ≤ (x1 : Int) := by omega
  have p4 : (0 : Int) ≤ (x3 : Int) := by omega
  have p5 : (x3 : Int) < 256 := by omega
  have hf : x3 < 256 := by omega
  have hx : x3 = m / 2 ^ 40 := by omega
  have hb := Bits.of (b := 40) hx (.inl (by omega)) (by omega) (tab8_len ⟨x3, hf⟩)
  have hl := (tab8_len ⟨x3, hf⟩).1
  have HB := Aside0.mk hb
  have HL := Aside0.mk hl
  clear hx hb hl
  go_enter Try.func178, Try.ntmps178
  go_wp2
  go_ret
  refine ⟨_, HB.out, ?_, rfl⟩
  have hl := HL.out
  show Ending.returned (.int .i64 (wrap64 (40 + wrap64 ((tab8[x3]'(by rw [tab8_size]; exact hf)).toNat : Int)))) = _
  congr 2
  simp only [wrap64] at *
  omega
set_option maxHeartbeats 8000000 in
set_option maxRecDepth 100000 in
theorem len64_48 (m : Nat) (x1 x2 : Nat) (w : World) (h1 : 4294967296 ≤ m) (e1 : (m : Int) / 4294967296 = (x1 : Int)) (h2 : 65536 ≤ x1) (e2 : (x1 : Int) / 65536 = (x2 : Int)) (h3 : x2 < 256) (hm : m ≤ 1152921504606846976) :
    Calls Try.prog 178 #[.int .u64 m] w fun e w' => ∃ r : Nat, Bits m r ∧ e = .returned (.int .i64 r) ∧ w' = w := by
  have d1 : decide ((4294967296 : Int) ≤ (m : Int)) = true := decide_eq_true (by omega)
  have p1 : (0 : Int) ≤ (m : Int) := by omega
  have d2 : decide ((65536 : Int) ≤ (x1 : Int)) = true := decide_eq_true (by omega)
  have p2 : (0 : Int) ≤ (x1 : Int) := by omega
  have d3 : decide ((256 : Int) ≤ (x2 : Int)) = false := decide_eq_false (by omega)
  have p3 : (0 : Int) ≤ (x2 : Int) := by omega
  have p4 : (0 : Int) ≤ (x2 : Int) := by omega
  have p5 : (x2 : Int) < 256 := by omega
  have hf : x2 < 256 := by omega
  have hx : x2 = m / 2 ^ 48 := by omega
  have hb := Bits.of (b := 48) hx (.inl (by omega)) (by omega) (tab8_len ⟨x2, hf⟩)
  have hl := (tab8_len ⟨x2, hf⟩).1
  have HB := Aside0.mk hb
  have HL := Aside0.mk hl
  clear hx hb hl
  go_enter Try.func178, Try.ntmps178
  go_wp2
  go_ret
  refine ⟨_, HB.out, ?_, rfl⟩
  have hl := HL.out
  show Ending.returned (.int .i64 (wrap64 (48 + wrap64 ((tab8[x2]'(by rw [tab8_size]; exact hf)).toNat : Int)))) = _
  congr 2
  simp only [wrap64] at *
  omega
set_option maxHeartbeats 8000000 in
set_option maxRecDepth 100000 in
theorem len64_56 (m : Nat) (x1 x2 x3 : Nat) (w : World) (h1 : 4294967296 ≤ m) (e1 : (m : Int) / 4294967296 = (x1 : Int)) (h2 : 65536 ≤ x1) (e2 : (x1 : Int) / 65536 = (x2 : Int)) (h3 : 256 ≤ x2) (e3 : (x2 : Int) / 256 = (x3 : Int)) (hm : m ≤ 1152921504606846976) :
    Calls Try.prog 178 #[.int .u64 m] w fun e w' => ∃ r : Nat, Bits m r ∧ e = .returned (.int .i64 r) ∧ w' = w := by
  have d1 : decide ((4294967296 : Int) ≤ (m : Int)) = true := decide_eq_true (by omega)
  have p1 : (0 : Int) ≤ (m : Int) := by omega
  have d2 : decide ((65536 : Int) ≤ (x1 : Int)) = true := decide_eq_true (by omega)
  have p2 : (0 : Int) ≤ (x1 : Int) := by omega
  have d3 : decide ((256 : Int) ≤ (x2 : Int)) = true := decide_eq_true (by omega)
  have p3 : (0 : Int) ≤ (x2 : Int) := by omega
  have p4 : (0 : Int) ≤ (x3 : Int) := by omega
  have p5 : (x3 : Int) < 256 := by omega
  have hf : x3 < 256 := by omega
  have hx : x3 = m / 2 ^ 56 := by omega
  have hb := Bits.of (b := 56) hx (.inl (by omega)) (by omega) (tab8_len ⟨x3, hf⟩)
  have hl := (tab8_len ⟨x3, hf⟩).1
  have HB := Aside0.mk hb
  have HL := Aside0.mk hl
  clear hx hb hl
  go_enter Try.func178, Try.ntmps178
  go_wp2
  go_ret
  refine ⟨_, HB.out, ?_, rfl⟩
  have hl := HL.out
  show Ending.returned (.int .i64 (wrap64 (56 + wrap64 ((tab8[x3]'(by rw [tab8_size]; exact hf)).toNat : Int)))) = _
  congr 2
  simp only [wrap64] at *
  omega
theorem len64 (m : Nat) (w : World) (hm : m ≤ 1152921504606846976) : Calls Try.prog 178 #[.int .u64 m] w fun e w' => ∃ r : Nat, Bits m r ∧ e = .returned (.int .i64 r) ∧ w' = w := by
  by_cases h1 : m < 4294967296
  · by_cases h2 : m < 65536
    · by_cases h3 : m < 256
      · exact len64_0 m w h1 h2 h3 hm
      · exact len64_8 m (m / 256) w h1 h2 (by omega) (by omega) hm
    · by_cases h3 : m / 65536 < 256
      · exact len64_16 m (m / 65536) w h1 (by omega) (by omega) h3 hm
      · exact len64_24 m (m / 65536) (m / 65536 / 256) w h1 (by omega) (by omega) (by omega) (by omega) hm
  · by_cases h2 : m / 4294967296 < 65536
    · by_cases h3 : m / 4294967296 < 256
      · exact len64_32 m (m / 4294967296) w (by omega) (by omega) h2 h3 hm
      · exact len64_40 m (m / 4294967296) (m / 4294967296 / 256) w (by omega) (by omega) h2 (by omega) (by omega) hm
    · by_cases h3 : m / 4294967296 / 65536 < 256
      · exact len64_48 m (m / 4294967296) (m / 4294967296 / 65536) w (by omega) (by omega) (by omega) (by omega) h3 hm
      · exact len64_56 m (m / 4294967296) (m / 4294967296 / 65536) (m / 4294967296 / 65536 / 256) w (by omega) (by omega) (by omega) (by omega) (by omega) (by omega) hm
set_option maxHeartbeats 8000000 in
theorem len (m : Nat) (w : World) (hm : m ≤ 1152921504606846976) : Calls Try.prog 151 #[.int .u64 m] w fun e w' => ∃ r : Nat, Bits m r ∧ e = .returned (.int .i64 r) ∧ w' = w := by
  go_enter Try.func151, Try.ntmps151
  go_wp2_with (go_at_call 178; refine (len64 m _ hm).mono ?_; rintro e w' ⟨r, hr, rfl, rfl⟩; have HR := Aside0.mk hr; clear hr)
  go_ret
  exact ⟨r, HR.out, rfl, rfl⟩
end Go.Proofs.Ythibppfdonepoaa.Srt
