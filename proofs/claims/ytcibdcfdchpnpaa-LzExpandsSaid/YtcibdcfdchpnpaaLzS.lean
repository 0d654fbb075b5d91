/- Tokens and what they tell: in plain lists. Nothing is assumed. -/
import Derived.Test.YtcibdcfdchpnpaaX11
namespace Go.Proofs.Ytcibdcfdchpnpaa.X
open Go Go.RowKit
set_option linter.unusedSimpArgs false
set_option linter.unusedVariables false
structure TokR where
  len : Int
  dist : Int
  lit : Nat
  deriving DecidableEq
instance : Inhabited TokR := ⟨⟨0, 0, 0⟩⟩
abbrev tokV (x : TokR) : List Value := [.int .i64 x.len, .int .i64 x.dist, .int .u8 (x.lit : Int)]
instance : Esz tokV 3 := ⟨fun _ => rfl⟩
structure TokR.Wf (x : TokR) : Prop where
  lit : x.lit < 256
  len : -9223372036854775808 ≤ x.len ∧ x.len ≤ 9223372036854775807
  dist : -9223372036854775808 ≤ x.dist ∧ x.dist ≤ 9223372036854775807
/-- A token that may be. -/
def TokR.ok (x : TokR) : Prop := (x.len = 0 ∧ x.dist = 0) ∨ (3 ≤ x.len ∧ x.len ≤ 258 ∧ 1 ≤ x.dist ∧ x.dist ≤ 32768 ∧ x.lit = 0)
instance (x : TokR) : Decidable x.ok := inferInstanceAs (Decidable (_ ∨ _))
/-- Bytes, and so many more, each the one that far ahead. -/
def copyB (b : List Nat) (d : Nat) : Nat → List Nat
  | 0 => b
  | k + 1 => copyB b d k ++ [(copyB b d k).getD ((copyB b d k).length - d) 0]
theorem copyB_len (b : List Nat) (d : Nat) : ∀ k, (copyB b d k).length = b.length + k
  | 0 => rfl
  | k + 1 => by simp only [copyB, List.length_append, List.length_singleton, copyB_len b d k]; omega
theorem copyB_bytes {b : List Nat} (hb : Bytes b) (d : Nat) : ∀ k, Bytes (copyB b d k)
  | 0 => hb
  | k + 1 => (copyB_bytes hb d k).append (fun x hx => by rw [List.mem_singleton.1 hx]; exact (copyB_bytes hb d k).at _)
/-- What is told of a token behind bytes: 0 none wrong, 1 no token, 4 too far, 5 too much. -/
def putE (n : Nat) (x : TokR) (most : Nat) : Nat :=
  if ¬ x.ok then 1 else if (n : Int) < x.dist then 4 else if (most : Int) - n < max x.len 1 then 5 else 0
/-- Bytes with a token's behind them, where none is wrong. -/
def putB (b : List Nat) (x : TokR) : List Nat := if x.len = 0 then b ++ [x.lit] else copyB b x.dist.toNat x.len.toNat
theorem putB_len {b : List Nat} {x : TokR} (h : x.ok) : (putB b x).length = b.length + (max x.len 1).toNat := by
  unfold putB TokR.ok at *
  split
  · simp; omega
  · rw [copyB_len]; omega
theorem putB_bytes {b : List Nat} (hb : Bytes b) {x : TokR} (hx : x.lit < 256) : Bytes (putB b x) := by
  unfold putB
  split
  · exact hb.append (fun y hy => by rw [List.mem_singleton.1 hy]; exact hx)
  · exact copyB_bytes hb _ _
end Go.Proofs.Ytcibdcfdchpnpaa.X
