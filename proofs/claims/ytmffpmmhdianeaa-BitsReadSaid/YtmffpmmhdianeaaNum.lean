/- Bytes as one number, the lowest first. Nothing is assumed. -/
import Derived.Test.YtmffpmmhdianeaaX8
namespace Go.Proofs.Ytmffpmmhdianeaa.X
open Go Go.RowKit
set_option linter.unusedSimpArgs false
set_option linter.unusedVariables false
def num : List Nat → Nat
  | [] => 0
  | b :: bs => b + 256 * num bs
theorem num_append : ∀ (a b : List Nat), num (a ++ b) = num a + 256 ^ a.length * num b
  | [], b => by simp [num]
  | x :: a, b => by
    show x + 256 * num (a ++ b) = x + 256 * num a + 256 ^ (a.length + 1) * num b
    rw [num_append a b, Nat.pow_succ]
    have : 256 ^ a.length * 256 * num b = 256 * (256 ^ a.length * num b) := by
      rw [Nat.mul_comm (256 ^ a.length) 256, Nat.mul_assoc]
    omega
theorem num_lt : ∀ {bs : List Nat}, Bytes bs → num bs < 256 ^ bs.length
  | [], _ => by simp [num]
  | b :: bs, h => by
    have h1 := num_lt (bs := bs) (fun x hx => h x (List.mem_cons_of_mem _ hx))
    have h2 := h b List.mem_cons_self
    show b + 256 * num bs < 256 ^ (bs.length + 1)
    rw [Nat.pow_succ]
    omega
theorem num_take {bs : List Nat} (h : Bytes bs) (k : Nat) : num (bs.take k) = num bs % 256 ^ k := by
  by_cases hk : k ≤ bs.length
  · conv => rhs; rw [← List.take_append_drop k bs, num_append]
    have hl : (bs.take k).length = k := by rw [List.length_take]; omega
    have := num_lt (h.take k)
    rw [hl] at this ⊢
    rw [Nat.add_mul_mod_self_left, Nat.mod_eq_of_lt this]
  · rw [List.take_of_length_le (by omega)]
    have := num_lt h
    have h2 : 256 ^ bs.length ≤ 256 ^ k := Nat.pow_le_pow_right (by decide) (by omega)
    rw [Nat.mod_eq_of_lt (by omega)]
theorem num_drop {bs : List Nat} (h : Bytes bs) (k : Nat) : num (bs.drop k) = num bs / 256 ^ k := by
  by_cases hk : k ≤ bs.length
  · conv => rhs; rw [← List.take_append_drop k bs, num_append]
    have hl : (bs.take k).length = k := by rw [List.length_take]; omega
    have := num_lt (h.take k)
    rw [hl] at this ⊢
    rw [Nat.add_mul_div_left _ _ (Nat.pow_pos (by decide)), Nat.div_eq_of_lt this, Nat.zero_add]
  · rw [List.drop_of_length_le (by omega)]
    have := num_lt h
    have h2 : 256 ^ bs.length ≤ 256 ^ k := Nat.pow_le_pow_right (by decide) (by omega)
    rw [Nat.div_eq_of_lt (by omega)]; rfl
theorem pow256 (k : Nat) : 256 ^ k = 2 ^ (8 * k) := by
  rw [Nat.pow_mul]
theorem num_snoc {bs : List Nat} {k : Nat} (hk : k < bs.length) : num (bs.take (k + 1)) = num (bs.take k) + bs.getD k 0 * 2 ^ (8 * k) := by
  rw [List.take_succ_eq_append_getElem hk, num_append]
  have hl : (bs.take k).length = k := by rw [List.length_take]; omega
  have hg : bs.getD k 0 = bs[k] := by simp [List.getD, hk]
  rw [hl, hg, pow256]
  simp only [num, Nat.mul_zero, Nat.add_zero]
  rw [Nat.mul_comm]
/-- A number with another ahead of it. -/
theorem or_shl {a b k : Nat} (h : a < 2 ^ k) : a ||| b <<< k = a + b * 2 ^ k := by
  rw [Nat.or_comm, ← Nat.shiftLeft_add_eq_or_of_lt h, Nat.shiftLeft_eq, Nat.add_comm]
/-- Bits of a number, from a place on. -/
def cutN (N m n : Nat) : Nat := (N >>> m) % 2 ^ n
theorem cutN_lt (N m n : Nat) : cutN N m n < 2 ^ n := Nat.mod_lt _ (Nat.pow_pos (by decide))
theorem cutN_win {bs : List Nat} (h : Bytes bs) {m c n : Nat} (hc : m % 8 + n ≤ 8 * c) : (num ((bs.drop (m / 8)).take c) >>> (m % 8)) % 2 ^ n = cutN (num bs) m n := by
  rw [num_take (h.drop _), num_drop h, pow256, pow256]
  apply Nat.eq_of_testBit_eq
  intro i
  unfold cutN
  rw [Nat.testBit_mod_two_pow, Nat.testBit_mod_two_pow, Nat.testBit_shiftRight, Nat.testBit_shiftRight, Nat.testBit_mod_two_pow, Nat.testBit_div_two_pow]
  by_cases hi : i < n
  · have e : m % 8 + i + 8 * (m / 8) = m + i := by omega
    have e' : m % 8 + i < 8 * c := by omega
    simp [hi, e', e]
  · simp [hi]
end Go.Proofs.Ytmffpmmhdianeaa.X
