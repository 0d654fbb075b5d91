/- When a token may be put. Nothing is assumed. -/
import Derived.Test.YtcibdcfdchpnpaaLzS
namespace Go.Proofs.Ytcibdcfdchpnpaa.X
open Go Go.RowKit
set_option linter.unusedSimpArgs false
set_option linter.unusedVariables false
theorem putE_ok {n : Nat} {x : TokR} {most : Nat} (h1 : x.ok) (h2 : x.dist ≤ n) (h3 : max x.len 1 ≤ (most : Int) - n) : putE n x most = 0 := by
  unfold putE
  rw [if_neg (by simpa using h1), if_neg (by omega), if_neg (by omega)]
theorem putE_far {n : Nat} {x : TokR} {most : Nat} (h1 : x.ok) (h2 : (n : Int) < x.dist) : putE n x most = 4 := by
  unfold putE
  rw [if_neg (by simpa using h1), if_pos h2]
theorem putE_much {n : Nat} {x : TokR} {most : Nat} (h1 : x.ok) (h2 : x.dist ≤ n) (h3 : (most : Int) - n < max x.len 1) : putE n x most = 5 := by
  unfold putE
  rw [if_neg (by simpa using h1), if_neg (by omega), if_pos h3]
theorem ok_lit (c : Nat) : TokR.ok ⟨0, 0, c⟩ := Or.inl ⟨rfl, rfl⟩
theorem ok_copy {n d : Nat} (h : 3 ≤ n ∧ n ≤ 258) (hd : 1 ≤ d ∧ d ≤ 32768) : TokR.ok ⟨n, d, 0⟩ :=
  Or.inr ⟨show (3 : Int) ≤ (n : Int) by omega, show (n : Int) ≤ 258 by omega, show (1 : Int) ≤ (d : Int) by omega, show (d : Int) ≤ 32768 by omega, rfl⟩
theorem putB_lit (b : List Nat) (c : Nat) : putB b ⟨0, 0, c⟩ = b ++ [c] := if_pos rfl
theorem putB_copy (b : List Nat) {n d : Nat} (h : n ≠ 0) : putB b ⟨n, d, 0⟩ = copyB b d n := by
  unfold putB
  rw [if_neg (show ¬ ((n : Nat) : Int) = 0 by omega)]
  rfl
end Go.Proofs.Ytcibdcfdchpnpaa.X
