/- The check's step by a table is eight steps by bits. Nothing is assumed. -/
import Derived.Test.YtmffpmmhdianeaaCrc
namespace Go.Proofs.Ytmffpmmhdianeaa.X
open Go Go.RowKit
set_option linter.unusedSimpArgs false
set_option linter.unusedVariables false
theorem step1_eq (r : Nat) : step1 r = (r >>> 1) ^^^ (if r % 2 = 1 then 3988292384 else 0) := by
  unfold step1
  have h : r &&& 1 = r % 2 := Nat.and_two_pow_sub_one_eq_mod r 1
  rw [h]
  rcases Nat.mod_two_eq_zero_or_one r with h0 | h0 <;> rw [h0] <;> rfl
theorem step1_odd {r : Nat} (h : r &&& 1 = 1) : step1 r = (r >>> 1) ^^^ 3988292384 := by
  have h' : r &&& 1 = r % 2 := Nat.and_two_pow_sub_one_eq_mod r 1
  rw [step1_eq, if_pos (by omega)]
theorem step1_even {r : Nat} (h : r &&& 1 ≠ 1) : step1 r = r >>> 1 := by
  have h' : r &&& 1 = r % 2 := Nat.and_two_pow_sub_one_eq_mod r 1
  rw [step1_eq, if_neg (by omega), Nat.xor_zero]
theorem xor_mod_two (a b : Nat) : (a ^^^ b) % 2 = (a % 2 + b % 2) % 2 := by
  have h := Nat.xor_mod_two_eq_one (a := a) (b := b)
  rcases Nat.mod_two_eq_zero_or_one a with h1 | h1 <;> rcases Nat.mod_two_eq_zero_or_one b with h2 | h2 <;> rcases Nat.mod_two_eq_zero_or_one (a ^^^ b) with h3 | h3 <;> simp [h1, h2, h3] at h ⊢
theorem step1_xor (a b : Nat) : step1 (a ^^^ b) = step1 a ^^^ step1 b := by
  rw [step1_eq, step1_eq, step1_eq, Nat.shiftRight_xor_distrib, xor_mod_two]
  rcases Nat.mod_two_eq_zero_or_one a with h1 | h1 <;> rcases Nat.mod_two_eq_zero_or_one b with h2 | h2 <;> rw [h1, h2]
  · simp
  · simp [Nat.xor_assoc]
  · simp only [Nat.add_zero, Nat.zero_mod]
    rw [if_pos (by decide), if_neg (by decide), Nat.xor_zero, Nat.xor_assoc, Nat.xor_assoc, Nat.xor_comm (b >>> 1)]
  · rw [if_neg (by decide), if_pos rfl, Nat.xor_zero]
    rw [Nat.xor_assoc, Nat.xor_comm 3988292384, Nat.xor_assoc, Nat.xor_self, Nat.xor_zero]
theorem iterN_xor (a b : Nat) : ∀ k, iterN k (a ^^^ b) = iterN k a ^^^ iterN k b
  | 0 => rfl
  | k + 1 => by rw [iterN, iterN_xor a b k, step1_xor]; rfl
theorem iterN_zero : ∀ k, iterN k 0 = 0
  | 0 => rfl
  | k + 1 => by rw [iterN, iterN_zero k]; rfl
theorem iterN_add (a b r : Nat) : iterN (a + b) r = iterN b (iterN a r) := by
  induction b with
  | zero => rfl
  | succ b ih => show step1 (iterN (a + b) r) = step1 (iterN b (iterN a r)); rw [ih]
theorem iterN_shl (y : Nat) : ∀ k, iterN k (y <<< k) = y
  | 0 => rfl
  | k + 1 => by
    have e : iterN (k + 1) (y <<< (k + 1)) = iterN k (step1 (y <<< (k + 1))) := by
      rw [Nat.add_comm k 1, iterN_add]; rfl
    have e2 : step1 (y <<< (k + 1)) = y <<< k := by
      rw [step1_eq, Nat.shiftLeft_succ]
      have : 2 * y <<< k % 2 ≠ 1 := by omega
      rw [if_neg this, Nat.xor_zero, Nat.shiftRight_eq_div_pow]; omega
    rw [e, e2, iterN_shl y k]
theorem split8 (x : Nat) : x = ((x >>> 8) <<< 8) ^^^ (x &&& 255) := by
  apply Nat.eq_of_testBit_eq
  intro i
  have h255 : (255 : Nat) = 2 ^ 8 - 1 := rfl
  rw [Nat.testBit_xor, Nat.testBit_shiftLeft, Nat.testBit_shiftRight, Nat.testBit_and, h255, Nat.testBit_two_pow_sub_one]
  by_cases h : i < 8
  · have h' : ¬ 8 ≤ i := by omega
    simp [h, h']
  · have h' : 8 ≤ i := by omega
    have e : 8 + (i - 8) = i := by omega
    simp [h, h', e]
theorem iterN8 (x : Nat) : iterN 8 x = (x >>> 8) ^^^ iterN 8 (x &&& 255) := by
  conv => lhs; rw [split8 x, iterN_xor, iterN_shl]
theorem tab_get {j : Nat} (h : j < 256) : (tabTo 256).getD j 0 = iterN 8 j := by
  unfold tabTo
  simp [List.getD, h]
theorem crcStep_eq {r c : Nat} (hc : c < 256) : crcStep r c = iterN 8 (r ^^^ c) := by
  have hj : (r ^^^ c) &&& 255 < 256 := Nat.lt_of_le_of_lt Nat.and_le_right (by omega)
  unfold crcStep
  rw [tab_get hj, iterN8 (r ^^^ c), Nat.shiftRight_xor_distrib]
  have : c >>> 8 = 0 := by rw [Nat.shiftRight_eq_div_pow]; omega
  rw [this, Nat.xor_zero]
end Go.Proofs.Ytmffpmmhdianeaa.X
