/- The symbols of lengths and distances. Nothing is assumed. -/
import Derived.Test.YtcibdcfdchpnpaaCloneB
import Derived.Test.YtcibdcfdchpnpaaLzS
namespace Go.Proofs.Ytcibdcfdchpnpaa.X
open Go Go.RowKit
set_option linter.unusedSimpArgs false
set_option linter.unusedVariables false
set_option maxRecDepth 100000
def lenBase (s : Nat) : Nat := if s = 285 then 258 else if s < 265 then 3 + (s - 257) else 3 + (4 + (s - 257) % 4) <<< ((s - 257) / 4 - 1)
def lenExtra (s : Nat) : Nat := if s = 285 then 0 else if s < 265 then 0 else (s - 257) / 4 - 1
def distBase (s : Nat) : Nat := if s < 4 then 1 + s else 1 + (2 + s % 2) <<< (s / 2 - 1)
def distExtra (s : Nat) : Nat := if s < 4 then 0 else s / 2 - 1
theorem len_small : ∀ s : Fin 286, (4 + (s.val - 257) % 4) <<< ((s.val - 257) / 4 - 1) ≤ 1000 := by decide +kernel
theorem dist_small : ∀ s : Fin 30, (2 + s.val % 2) <<< (s.val / 2 - 1) ≤ 100000 := by decide +kernel
theorem lenBase_le : ∀ s : Fin 286, lenBase s.val ≤ 1003 := by decide +kernel
theorem distBase_le : ∀ s : Fin 30, distBase s.val ≤ 100001 := by decide +kernel
theorem symLen_call {w0 w : World} {L : List Res} {s : Nat} (H : Own w0 w L) (h1 : 257 ≤ s) (h2 : s ≤ 285) :
    Call Try.prog 33 #[.int .i64 (s : Int)] w fun r w' => r = .tuple #[.int .i64 (lenBase s : Nat), .int .i64 (lenExtra s : Nat), .bool true] ∧ Own w0 w' L := by
  refine Call.of (n := 34) (rs := [2, 3, 4]) Try.func33 rfl rfl rfl (by decide) (Nat.le_of_ble_eq_true rfl) ?_
  unfold lenBase lenExtra
  have hs := len_small ⟨s, by omega⟩
  simp only at hs
  have hsh : (4 + (s - 257) % 4) <<< ((s - 257) / 4 - 1) < 2 ^ 63 := Nat.lt_of_le_of_lt hs (by decide)
  by_cases h3 : s = 285
  · rw [if_pos h3, if_pos h3]
    repeat' (first
        | with_reducible refine C.seq ?_
        | with_reducible refine C.region ?_
        | with_reducible refine C.block ?_
        | with_reducible refine J.thn ?_
        | with_reducible refine O.nil ?_
        | with_reducible refine C.ret ?_
        | with_reducible refine J.thnR ?_
        | with_reducible refine J.blkR ?_
        | with_reducible refine J.bodyR ?_
        | (show O _ _ _ _ (⟨_, .binOp .sub _ _ (.const _) _, _, _, _, none⟩ :: _) _ _; refine O.val (Val.subL rfl rfl (by first | omega | assumption | decide | with_reducible exact nself | with_reducible exact rfl)) ?_)
        | (show O _ _ _ _ (⟨_, .move _, _, _, _, none⟩ :: _) _ _; first | refine O.val (Val.moveI rfl) ?_ | refine O.val (Val.moveB rfl) ?_)
        | (show O _ _ _ _ (⟨_, .assign _, _, _, _, none⟩ :: _) _ _; first | refine O.val (Val.assignI rfl) ?_ | refine O.val (Val.assignB rfl) ?_)
        | (show O _ _ _ _ (⟨_, .binOp .lss _ _ _ _, _, _, _, none⟩ :: _) _ _; refine O.val (Val.lss rfl rfl) ?_)
        | (show O _ _ _ _ (⟨_, .binOp .gtr _ _ _ _, _, _, _, none⟩ :: _) _ _; refine O.val (Val.gtr rfl rfl) ?_)
        | (show O _ _ _ _ (⟨_, .binOp .eql _ _ _ _, _, _, _, none⟩ :: _) _ _; refine O.val (Val.eql rfl rfl) ?_)
        | (show O _ _ _ _ (⟨_, .pick _ _ _, _, _, _, none⟩ :: _) _ _; refine O.val (Val.pickDF rfl (by first | omega | assumption | decide | with_reducible exact nself | with_reducible exact rfl)) ?_)
        | (show O _ _ _ _ (⟨_, _, _, _, _, some _⟩ :: _) _ _; refine O.gF rfl rfl (by first | omega | assumption | with_reducible exact nself | with_reducible exact rfl) rfl ?_)
        | (show C _ _ (.cond _ _ _) _ _ _; first | refine C.ifT rfl (by first | omega | assumption | with_reducible exact nself | with_reducible exact rfl) ?_ | refine C.ifF rfl (by first | omega | assumption | with_reducible exact nself | with_reducible exact rfl) ?_)
        )
    exact ⟨rfl, H⟩
  rw [if_neg h3, if_neg h3]
  by_cases h4 : s < 265
  · rw [if_pos h4, if_pos h4]
    repeat' (first
        | with_reducible refine C.seq ?_
        | with_reducible refine C.region ?_
        | with_reducible refine C.block ?_
        | with_reducible refine J.thn ?_
        | with_reducible refine O.nil ?_
        | with_reducible refine C.ret ?_
        | with_reducible refine J.thnR ?_
        | with_reducible refine J.blkR ?_
        | with_reducible refine J.bodyR ?_
        | (show O _ _ _ _ (⟨_, .binOp .add _ (.const _) _ _, _, _, _, none⟩ :: _) _ _; refine O.val (Val.addLl rfl rfl (by first | omega | assumption | decide | with_reducible exact nself | with_reducible exact rfl)) ?_)
        | (show O _ _ _ _ (⟨_, .binOp .sub _ _ (.const _) _, _, _, _, none⟩ :: _) _ _; refine O.val (Val.subL rfl rfl (by first | omega | assumption | decide | with_reducible exact nself | with_reducible exact rfl)) ?_)
        | (show O _ _ _ _ (⟨_, .move _, _, _, _, none⟩ :: _) _ _; first | refine O.val (Val.moveI rfl) ?_ | refine O.val (Val.moveB rfl) ?_)
        | (show O _ _ _ _ (⟨_, .assign _, _, _, _, none⟩ :: _) _ _; first | refine O.val (Val.assignI rfl) ?_ | refine O.val (Val.assignB rfl) ?_)
        | (show O _ _ _ _ (⟨_, .binOp .lss _ _ _ _, _, _, _, none⟩ :: _) _ _; refine O.val (Val.lss rfl rfl) ?_)
        | (show O _ _ _ _ (⟨_, .binOp .gtr _ _ _ _, _, _, _, none⟩ :: _) _ _; refine O.val (Val.gtr rfl rfl) ?_)
        | (show O _ _ _ _ (⟨_, .binOp .eql _ _ _ _, _, _, _, none⟩ :: _) _ _; refine O.val (Val.eql rfl rfl) ?_)
        | (show O _ _ _ _ (⟨_, .pick _ _ _, _, _, _, none⟩ :: _) _ _; refine O.val (Val.pickDF rfl (by first | omega | assumption | decide | with_reducible exact nself | with_reducible exact rfl)) ?_)
        | (show O _ _ _ _ (⟨_, _, _, _, _, some _⟩ :: _) _ _; refine O.gF rfl rfl (by first | omega | assumption | with_reducible exact nself | with_reducible exact rfl) rfl ?_)
        | (show C _ _ (.cond _ _ _) _ _ _; first | refine C.ifT rfl (by first | omega | assumption | with_reducible exact nself | with_reducible exact rfl) ?_ | refine C.ifF rfl (by first | omega | assumption | with_reducible exact nself | with_reducible exact rfl) ?_)
        )
    exact ⟨rfl, H⟩
  rw [if_neg h4, if_neg h4]
  repeat' (first
      | with_reducible refine C.seq ?_
      | with_reducible refine C.region ?_
      | with_reducible refine C.block ?_
      | with_reducible refine J.thn ?_
      | with_reducible refine O.nil ?_
      | with_reducible refine J.blkN ?_
      | with_reducible refine C.skip ?_
      | with_reducible refine C.ret ?_
      | with_reducible refine J.bodyR ?_
      | (show O _ _ _ _ (⟨_, .binOp .shl _ _ _ _, _, _, _, none⟩ :: _) _ _; refine O.val (Val.shlI rfl rfl hsh (by omega)) ?_)
      | (show O _ _ _ _ (⟨_, .binOp .add _ (.const _) _ _, _, _, _, none⟩ :: _) _ _; refine O.val (Val.addLl rfl rfl (by first | omega | assumption | decide | with_reducible exact nself | with_reducible exact rfl)) ?_)
      | (show O _ _ _ _ (⟨_, .binOp .sub _ _ (.const _) _, _, _, _, none⟩ :: _) _ _; refine O.val (Val.subL rfl rfl (by first | omega | assumption | decide | with_reducible exact nself | with_reducible exact rfl)) ?_)
      | (show O _ _ _ _ (⟨_, .binOp .quo _ _ (.const _) _, _, _, _, none⟩ :: _) _ _; refine O.val (Val.quoL rfl rfl (by first | omega | assumption | decide | with_reducible exact nself | with_reducible exact rfl) (by first | omega | assumption | decide | with_reducible exact nself | with_reducible exact rfl)) ?_)
      | (show O _ _ _ _ (⟨_, .binOp .rem _ _ (.const _) _, _, _, _, none⟩ :: _) _ _; refine O.val (Val.remL rfl rfl (by first | omega | assumption | decide | with_reducible exact nself | with_reducible exact rfl)) ?_)
      | (show O _ _ _ _ (⟨_, .move _, _, _, _, none⟩ :: _) _ _; first | refine O.val (Val.moveI rfl) ?_ | refine O.val (Val.moveB rfl) ?_)
      | (show O _ _ _ _ (⟨_, .assign _, _, _, _, none⟩ :: _) _ _; first | refine O.val (Val.assignI rfl) ?_ | refine O.val (Val.assignB rfl) ?_)
      | (show O _ _ _ _ (⟨_, .binOp .lss _ _ _ _, _, _, _, none⟩ :: _) _ _; refine O.val (Val.lss rfl rfl) ?_)
      | (show O _ _ _ _ (⟨_, .binOp .gtr _ _ _ _, _, _, _, none⟩ :: _) _ _; refine O.val (Val.gtr rfl rfl) ?_)
      | (show O _ _ _ _ (⟨_, .binOp .eql _ _ _ _, _, _, _, none⟩ :: _) _ _; refine O.val (Val.eql rfl rfl) ?_)
      | (show O _ _ _ _ (⟨_, .pick _ _ _, _, _, _, none⟩ :: _) _ _; refine O.val (Val.pickDF rfl (by first | omega | assumption | decide | with_reducible exact nself | with_reducible exact rfl)) ?_)
      | (show O _ _ _ _ (⟨_, .convert _ _ _, _, _, _, none⟩ :: _) _ _; refine O.val (Val.convN rfl (by first | assumption | decide | ((repeat (first | assumption | decide | exact Fits.modU rfl | refine Fits.and ?_ | refine Fits.or ?_ ?_ | refine Fits.xor ?_ ?_ | refine Fits.shr ?_ | exact Fits.u8 (by first | omega | assumption) | exact Fits.u32 (by first | omega | assumption) | exact Fits.u64 (by first | omega | assumption) | exact Fits.i64 (by first | omega | assumption))); first | done | fail))) ?_)
      | (show O _ _ _ _ (⟨_, _, _, _, _, some _⟩ :: _) _ _; refine O.gF rfl rfl (by first | omega | assumption | with_reducible exact nself | with_reducible exact rfl) rfl ?_)
      | (show C _ _ (.cond _ _ _) _ _ _; refine C.ifF rfl (by first | omega | assumption | with_reducible exact nself | with_reducible exact rfl) ?_)
      )
  exact ⟨rfl, H⟩
theorem symLen_no {w0 w : World} {L : List Res} {z : Int} (H : Own w0 w L) (h1 : z < 257 ∨ 285 < z) (h2 : -9000000000000000000 ≤ z) (h3 : z ≤ 9223372036854775807) :
    Call Try.prog 33 #[.int .i64 z] w fun r w' => r = .tuple #[.int .i64 0, .int .i64 0, .bool false] ∧ Own w0 w' L := by
  refine Call.of (n := 34) (rs := [2, 3, 4]) Try.func33 rfl rfl rfl (by decide) (Nat.le_of_ble_eq_true rfl) ?_
  rcases h1 with h1 | h1
  · repeat' (first
      | with_reducible refine C.seq ?_
      | with_reducible refine C.region ?_
      | with_reducible refine C.block ?_
      | with_reducible refine J.thn ?_
      | with_reducible refine O.nil ?_
      | with_reducible refine C.ret ?_
      | with_reducible refine J.thnR ?_
      | with_reducible refine J.blkR ?_
      | with_reducible refine J.bodyR ?_
      | (show O _ _ _ _ (⟨_, .binOp .sub _ _ _ _, _, _, _, none⟩ :: _) _ _; refine O.val (Val.subI rfl rfl (by omega)) ?_)
      | (show O _ _ _ _ (⟨_, .move _, _, _, _, none⟩ :: _) _ _; first | refine O.val (Val.moveI rfl) ?_ | refine O.val (Val.moveB rfl) ?_)
      | (show O _ _ _ _ (⟨_, .assign _, _, _, _, none⟩ :: _) _ _; first | refine O.val (Val.assignI rfl) ?_ | refine O.val (Val.assignB rfl) ?_)
      | (show O _ _ _ _ (⟨_, .binOp .lss _ _ _ _, _, _, _, none⟩ :: _) _ _; refine O.val (Val.lss rfl rfl) ?_)
      | (show O _ _ _ _ (⟨_, .pick _ _ _, _, _, _, none⟩ :: _) _ _; refine O.val (Val.pickDT rfl (by first | omega | assumption | decide | with_reducible exact nself | with_reducible exact rfl)) ?_)
      | (show O _ _ _ _ (⟨_, _, _, _, _, some _⟩ :: _) _ _; refine O.sT rfl rfl (by first | omega | assumption | with_reducible exact nself | with_reducible exact rfl) rfl ?_)
      | (show C _ _ (.cond _ _ _) _ _ _; with_reducible refine C.condT rfl rfl ?_)
      )
    exact ⟨rfl, H⟩
  · repeat' (first
      | with_reducible refine C.seq ?_
      | with_reducible refine C.region ?_
      | with_reducible refine C.block ?_
      | with_reducible refine J.thn ?_
      | with_reducible refine O.nil ?_
      | with_reducible refine C.ret ?_
      | with_reducible refine J.thnR ?_
      | with_reducible refine J.blkR ?_
      | with_reducible refine J.bodyR ?_
      | (show O _ _ _ _ (⟨_, .binOp .sub _ _ _ _, _, _, _, none⟩ :: _) _ _; refine O.val (Val.subI rfl rfl (by omega)) ?_)
      | (show O _ _ _ _ (⟨_, .move _, _, _, _, none⟩ :: _) _ _; first | refine O.val (Val.moveI rfl) ?_ | refine O.val (Val.moveB rfl) ?_)
      | (show O _ _ _ _ (⟨_, .assign _, _, _, _, none⟩ :: _) _ _; first | refine O.val (Val.assignI rfl) ?_ | refine O.val (Val.assignB rfl) ?_)
      | (show O _ _ _ _ (⟨_, .binOp .lss _ _ _ _, _, _, _, none⟩ :: _) _ _; refine O.val (Val.lss rfl rfl) ?_)
      | (show O _ _ _ _ (⟨_, .binOp .gtr _ _ _ _, _, _, _, none⟩ :: _) _ _; refine O.val (Val.gtr rfl rfl) ?_)
      | (show O _ _ _ _ (⟨_, .pick _ _ _, _, _, _, none⟩ :: _) _ _; refine O.val (Val.pickDF rfl (by first | omega | assumption | decide | with_reducible exact nself | with_reducible exact rfl)) ?_)
      | (show O _ _ _ _ (⟨_, _, _, _, _, some _⟩ :: _) _ _; refine O.gF rfl rfl (by first | omega | assumption | with_reducible exact nself | with_reducible exact rfl) rfl ?_)
      | (show C _ _ (.cond _ _ _) _ _ _; refine C.ifT rfl (by first | omega | assumption | with_reducible exact nself | with_reducible exact rfl) ?_)
      )
    exact ⟨rfl, H⟩
theorem symDist_call {w0 w : World} {L : List Res} {s : Nat} (H : Own w0 w L) (h2 : s < 30) :
    Call Try.prog 35 #[.int .i64 (s : Int)] w fun r w' => r = .tuple #[.int .i64 (distBase s : Nat), .int .i64 (distExtra s : Nat), .bool true] ∧ Own w0 w' L := by
  refine Call.of (n := 28) (rs := [2, 3, 4]) Try.func35 rfl rfl rfl (by decide) (Nat.le_of_ble_eq_true rfl) ?_
  unfold distBase distExtra
  have hs := dist_small ⟨s, h2⟩
  simp only at hs
  have hsh : (2 + s % 2) <<< (s / 2 - 1) < 2 ^ 63 := Nat.lt_of_le_of_lt hs (by decide)
  by_cases h4 : s < 4
  · rw [if_pos h4, if_pos h4]
    repeat' (first
        | with_reducible refine C.seq ?_
        | with_reducible refine C.region ?_
        | with_reducible refine C.block ?_
        | with_reducible refine J.thn ?_
        | with_reducible refine O.nil ?_
        | with_reducible refine C.ret ?_
        | with_reducible refine J.thnR ?_
        | with_reducible refine J.blkR ?_
        | with_reducible refine J.bodyR ?_
        | (show O _ _ _ _ (⟨_, .binOp .add _ (.const _) _ _, _, _, _, none⟩ :: _) _ _; refine O.val (Val.addLl rfl rfl (by first | omega | assumption | decide | with_reducible exact nself | with_reducible exact rfl)) ?_)
        | (show O _ _ _ _ (⟨_, .move _, _, _, _, none⟩ :: _) _ _; first | refine O.val (Val.moveI rfl) ?_ | refine O.val (Val.moveB rfl) ?_)
        | (show O _ _ _ _ (⟨_, .assign _, _, _, _, none⟩ :: _) _ _; first | refine O.val (Val.assignI rfl) ?_ | refine O.val (Val.assignB rfl) ?_)
        | (show O _ _ _ _ (⟨_, .binOp .lss _ _ _ _, _, _, _, none⟩ :: _) _ _; refine O.val (Val.lss rfl rfl) ?_)
        | (show O _ _ _ _ (⟨_, .binOp .geq _ _ _ _, _, _, _, none⟩ :: _) _ _; refine O.val (Val.geq rfl rfl) ?_)
        | (show O _ _ _ _ (⟨_, .pick _ _ _, _, _, _, none⟩ :: _) _ _; refine O.val (Val.pickF rfl rfl) ?_)
        | (show O _ _ _ _ (⟨_, _, _, _, _, some _⟩ :: _) _ _; refine O.gyes rfl rfl rfl ?_)
        | (show C _ _ (.cond _ _ _) _ _ _; first | refine C.ifT rfl (by first | omega | assumption | with_reducible exact nself | with_reducible exact rfl) ?_ | refine C.ifF rfl (by first | omega | assumption | with_reducible exact nself | with_reducible exact rfl) ?_)
        )
    exact ⟨rfl, H⟩
  rw [if_neg h4, if_neg h4]
  repeat' (first
      | with_reducible refine C.seq ?_
      | with_reducible refine C.region ?_
      | with_reducible refine C.block ?_
      | with_reducible refine J.thn ?_
      | with_reducible refine O.nil ?_
      | with_reducible refine J.blkN ?_
      | with_reducible refine C.skip ?_
      | with_reducible refine C.ret ?_
      | with_reducible refine J.bodyR ?_
      | (show O _ _ _ _ (⟨_, .binOp .shl _ _ _ _, _, _, _, none⟩ :: _) _ _; refine O.val (Val.shlI rfl rfl hsh (by omega)) ?_)
      | (show O _ _ _ _ (⟨_, .binOp .add _ (.const _) _ _, _, _, _, none⟩ :: _) _ _; refine O.val (Val.addLl rfl rfl (by first | omega | assumption | decide | with_reducible exact nself | with_reducible exact rfl)) ?_)
      | (show O _ _ _ _ (⟨_, .binOp .sub _ _ (.const _) _, _, _, _, none⟩ :: _) _ _; refine O.val (Val.subL rfl rfl (by first | omega | assumption | decide | with_reducible exact nself | with_reducible exact rfl)) ?_)
      | (show O _ _ _ _ (⟨_, .binOp .quo _ _ (.const _) _, _, _, _, none⟩ :: _) _ _; refine O.val (Val.quoL rfl rfl (by first | omega | assumption | decide | with_reducible exact nself | with_reducible exact rfl) (by first | omega | assumption | decide | with_reducible exact nself | with_reducible exact rfl)) ?_)
      | (show O _ _ _ _ (⟨_, .binOp .rem _ _ (.const _) _, _, _, _, none⟩ :: _) _ _; refine O.val (Val.remL rfl rfl (by first | omega | assumption | decide | with_reducible exact nself | with_reducible exact rfl)) ?_)
      | (show O _ _ _ _ (⟨_, .move _, _, _, _, none⟩ :: _) _ _; first | refine O.val (Val.moveI rfl) ?_ | refine O.val (Val.moveB rfl) ?_)
      | (show O _ _ _ _ (⟨_, .assign _, _, _, _, none⟩ :: _) _ _; first | refine O.val (Val.assignI rfl) ?_ | refine O.val (Val.assignB rfl) ?_)
      | (show O _ _ _ _ (⟨_, .binOp .lss _ _ _ _, _, _, _, none⟩ :: _) _ _; refine O.val (Val.lss rfl rfl) ?_)
      | (show O _ _ _ _ (⟨_, .binOp .geq _ _ _ _, _, _, _, none⟩ :: _) _ _; refine O.val (Val.geq rfl rfl) ?_)
      | (show O _ _ _ _ (⟨_, .pick _ _ _, _, _, _, none⟩ :: _) _ _; refine O.val (Val.pickF rfl rfl) ?_)
      | (show O _ _ _ _ (⟨_, .convert _ _ _, _, _, _, none⟩ :: _) _ _; refine O.val (Val.convN rfl (by first | assumption | decide | ((repeat (first | assumption | decide | exact Fits.modU rfl | refine Fits.and ?_ | refine Fits.or ?_ ?_ | refine Fits.xor ?_ ?_ | refine Fits.shr ?_ | exact Fits.u8 (by first | omega | assumption) | exact Fits.u32 (by first | omega | assumption) | exact Fits.u64 (by first | omega | assumption) | exact Fits.i64 (by first | omega | assumption))); first | done | fail))) ?_)
      | (show O _ _ _ _ (⟨_, _, _, _, _, some _⟩ :: _) _ _; refine O.gyes rfl rfl rfl ?_)
      | (show C _ _ (.cond _ _ _) _ _ _; refine C.ifF rfl (by first | omega | assumption | with_reducible exact nself | with_reducible exact rfl) ?_)
      )
  exact ⟨rfl, H⟩
theorem symDist_no {w0 w : World} {L : List Res} {z : Int} (H : Own w0 w L) (h1 : z < 0 ∨ 30 ≤ z) :
    Call Try.prog 35 #[.int .i64 z] w fun r w' => r = .tuple #[.int .i64 0, .int .i64 0, .bool false] ∧ Own w0 w' L := by
  refine Call.of (n := 28) (rs := [2, 3, 4]) Try.func35 rfl rfl rfl (by decide) (Nat.le_of_ble_eq_true rfl) ?_
  rcases h1 with h1 | h1
  · repeat' (first
      | with_reducible refine C.seq ?_
      | with_reducible refine C.region ?_
      | with_reducible refine C.block ?_
      | with_reducible refine J.thn ?_
      | with_reducible refine O.nil ?_
      | with_reducible refine C.ret ?_
      | with_reducible refine J.thnR ?_
      | with_reducible refine J.blkR ?_
      | with_reducible refine J.bodyR ?_
      | (show O _ _ _ _ (⟨_, .move _, _, _, _, none⟩ :: _) _ _; first | refine O.val (Val.moveI rfl) ?_ | refine O.val (Val.moveB rfl) ?_)
      | (show O _ _ _ _ (⟨_, .assign _, _, _, _, none⟩ :: _) _ _; first | refine O.val (Val.assignI rfl) ?_ | refine O.val (Val.assignB rfl) ?_)
      | (show O _ _ _ _ (⟨_, .binOp .lss _ _ _ _, _, _, _, none⟩ :: _) _ _; refine O.val (Val.lss rfl rfl) ?_)
      | (show O _ _ _ _ (⟨_, .pick _ _ _, _, _, _, none⟩ :: _) _ _; refine O.val (Val.pickDT rfl (by first | omega | assumption | decide | with_reducible exact nself | with_reducible exact rfl)) ?_)
      | (show O _ _ _ _ (⟨_, _, _, _, _, some _⟩ :: _) _ _; refine O.sT rfl rfl (by first | omega | assumption | with_reducible exact nself | with_reducible exact rfl) rfl ?_)
      | (show C _ _ (.cond _ _ _) _ _ _; with_reducible refine C.condT rfl rfl ?_)
      )
    exact ⟨rfl, H⟩
  · repeat' (first
      | with_reducible refine C.seq ?_
      | with_reducible refine C.region ?_
      | with_reducible refine C.block ?_
      | with_reducible refine J.thn ?_
      | with_reducible refine O.nil ?_
      | with_reducible refine C.ret ?_
      | with_reducible refine J.thnR ?_
      | with_reducible refine J.blkR ?_
      | with_reducible refine J.bodyR ?_
      | (show O _ _ _ _ (⟨_, .move _, _, _, _, none⟩ :: _) _ _; first | refine O.val (Val.moveI rfl) ?_ | refine O.val (Val.moveB rfl) ?_)
      | (show O _ _ _ _ (⟨_, .assign _, _, _, _, none⟩ :: _) _ _; first | refine O.val (Val.assignI rfl) ?_ | refine O.val (Val.assignB rfl) ?_)
      | (show O _ _ _ _ (⟨_, .binOp .lss _ _ _ _, _, _, _, none⟩ :: _) _ _; refine O.val (Val.lss rfl rfl) ?_)
      | (show O _ _ _ _ (⟨_, .binOp .geq _ _ _ _, _, _, _, none⟩ :: _) _ _; refine O.val (Val.geq rfl rfl) ?_)
      | (show O _ _ _ _ (⟨_, .pick _ _ _, _, _, _, none⟩ :: _) _ _; refine O.val (Val.pickDF rfl (by first | omega | assumption | decide | with_reducible exact nself | with_reducible exact rfl)) ?_)
      | (show O _ _ _ _ (⟨_, _, _, _, _, some _⟩ :: _) _ _; refine O.gF rfl rfl (by first | omega | assumption | with_reducible exact nself | with_reducible exact rfl) rfl ?_)
      | (show C _ _ (.cond _ _ _) _ _ _; refine C.ifT rfl (by first | omega | assumption | with_reducible exact nself | with_reducible exact rfl) ?_)
      )
    exact ⟨rfl, H⟩
/-- The greatest symbol, up to so many, whose least length is no more. -/
def symL (n : Nat) : Nat → Nat
  | 0 => 0
  | k + 1 => if lenBase (257 + (k + 1)) ≤ n then k + 1 else symL n k
def symD (n : Nat) : Nat → Nat
  | 0 => 0
  | k + 1 => if distBase (k + 1) ≤ n then k + 1 else symD n k
theorem symL_le (n : Nat) : ∀ k, symL n k ≤ k
  | 0 => Nat.le_refl _
  | k + 1 => by unfold symL; split; exact Nat.le_refl _; exact Nat.le_succ_of_le (symL_le n k)
theorem symD_le (n : Nat) : ∀ k, symD n k ≤ k
  | 0 => Nat.le_refl _
  | k + 1 => by unfold symD; split; exact Nat.le_refl _; exact Nat.le_succ_of_le (symD_le n k)
theorem lenSym_call {w0 w : World} {L : List Res} {n : Nat} (H : Own w0 w L) (h1 : 3 ≤ n) (h2 : n ≤ 258) :
    Call Try.prog 34 #[.int .i64 (n : Int)] w fun r w' => r = .tuple #[.int .i64 ((257 + symL n 28 : Nat) : Int), .int .i64 (lenExtra (257 + symL n 28) : Nat), .int .u32 ((n - lenBase (257 + symL n 28) : Nat) : Int)] ∧ Own w0 w' L := by
  refine Call.of (n := 32) (rs := [2, 3, 4]) Try.func34 rfl rfl rfl (by decide) (Nat.le_of_ble_eq_true rfl) ?_
  repeat' (first
      | with_reducible refine C.seq ?_
      | with_reducible refine C.region ?_
      | with_reducible refine C.block ?_
      | with_reducible refine J.thn ?_
      | with_reducible refine O.nil ?_
      | with_reducible refine C.skip ?_
      | (show O _ _ _ _ (⟨_, .move _, _, _, _, none⟩ :: _) _ _; first | refine O.val (Val.moveI rfl) ?_ | refine O.val (Val.moveB rfl) ?_)
      | (show O _ _ _ _ (⟨_, .assign _, _, _, _, none⟩ :: _) _ _; refine O.val (Val.assignI rfl) ?_)
      | (show O _ _ _ _ (⟨_, .binOp .lss _ _ _ _, _, _, _, none⟩ :: _) _ _; refine O.val (Val.lss rfl rfl) ?_)
      | (show O _ _ _ _ (⟨_, .binOp .gtr _ _ _ _, _, _, _, none⟩ :: _) _ _; refine O.val (Val.gtr rfl rfl) ?_)
      | (show O _ _ _ _ (⟨_, .pick _ _ _, _, _, _, none⟩ :: _) _ _; refine O.val (Val.pickDF rfl (by first | omega | assumption | decide | with_reducible exact nself | with_reducible exact rfl)) ?_)
      | (show O _ _ _ _ (⟨_, _, _, _, _, some _⟩ :: _) _ _; refine O.gF rfl rfl (by first | omega | assumption | with_reducible exact nself | with_reducible exact rfl) rfl ?_)
      | (show C _ _ (.cond _ _ _) _ _ _; refine C.ifF rfl (by first | omega | assumption | with_reducible exact nself | with_reducible exact rfl) ?_)
      )
  refine C.loopS (fun k : Nat => [(0, .int .i64 (n : Int)), (5, .int .i64 ((257 + k : Nat) : Int))]) (fun m k w => Own w0 w L ∧ symL n 28 = symL n k ∧ k ≤ 28 ∧ m = k) 28 28 ⟨H, rfl, by omega, rfl⟩ ⟨rfl, rfl, trivial⟩ ?_
  rintro m k e w ⟨H, hk, hk28, rfl⟩
  have hbl := lenBase_le ⟨257 + m, by omega⟩
  simp only at hbl
  have hex : lenExtra (257 + m) ≤ 28 := by unfold lenExtra; split; omega; split; omega; omega
  by_cases hb : lenBase (257 + m) ≤ n
  · have hs : symL n 28 = m := by
      rw [hk]
      cases m with
      | zero => rfl
      | succ k => unfold symL; rw [if_pos hb]
    repeat' (first
        | with_reducible refine C.seq ?_
        | with_reducible refine C.region ?_
        | with_reducible refine C.block ?_
        | with_reducible refine J.thn ?_
        | with_reducible refine O.nil ?_
        | with_reducible refine C.ret ?_
        | with_reducible refine J.thnR ?_
        | with_reducible refine J.blkR ?_
        | with_reducible refine J.bodyR ?_
        | (show O _ _ _ _ (⟨_, .call { callee := .value (.func 33), args := _, argTypes := _ }, _, _, _, none⟩ :: _) _ _; refine O.call rfl (symLen_call (s := 257 + m) H (by omega) (by omega)) ?_; rintro _ w ⟨rfl, H⟩)
        | (show O _ _ _ _ (⟨_, .move _, _, _, _, none⟩ :: _) _ _; first | refine O.val (Val.moveI rfl) ?_ | refine O.val (Val.moveV (by (conv => lhs; whnf); try rfl)) ?_)
        | (show O _ _ _ _ (⟨_, .assign _, _, _, _, none⟩ :: _) _ _; first | refine O.val (Val.assignI rfl) ?_ | refine O.val (Val.assignB rfl) ?_)
        | (show O _ _ _ _ (⟨_, .binOp .leq _ _ _ _, _, _, _, none⟩ :: _) _ _; refine O.val (Val.leq rfl rfl) ?_)
        | (show O _ _ _ _ (⟨_, .binOp .sub _ _ _ _, _, _, _, none⟩ :: _) _ _; refine O.val (Val.subN rfl rfl (by first | omega | assumption | decide | with_reducible exact nself | with_reducible exact rfl)) ?_)
        | (show O _ _ _ _ (⟨_, .extract _ _, _, _, _, none⟩ :: _) _ _; refine O.val (Val.extract rfl rfl) ?_)
        | (show O _ _ _ _ (⟨_, .convert _ _ _, _, _, _, none⟩ :: _) _ _; refine O.val (Val.convN rfl (by first | assumption | decide | ((repeat (first | assumption | decide | exact Fits.modU rfl | refine Fits.and ?_ | refine Fits.or ?_ ?_ | refine Fits.xor ?_ ?_ | refine Fits.shr ?_ | exact Fits.u8 (by first | omega | assumption) | exact Fits.u32 (by first | omega | assumption) | exact Fits.u64 (by first | omega | assumption) | exact Fits.i64 (by first | omega | assumption))); first | done | fail))) ?_)
        | (show C _ _ (.cond _ _ _) _ _ _; refine C.ifT rfl (by first | omega | assumption | with_reducible exact nself | with_reducible exact rfl) ?_)
        )
    rw [hs]
    exact ⟨rfl, H⟩
  · have hm0 : m ≠ 0 := by
      intro h; subst h
      have : lenBase (257 + 0) = 3 := by decide
      omega
    repeat' (first
        | with_reducible refine C.seq ?_
        | with_reducible refine C.region ?_
        | with_reducible refine C.block ?_
        | with_reducible refine J.thn ?_
        | with_reducible refine O.nil ?_
        | with_reducible refine J.blkN ?_
        | with_reducible refine C.skip ?_
        | (show O _ _ _ _ (⟨_, .call { callee := .value (.func 33), args := _, argTypes := _ }, _, _, _, none⟩ :: _) _ _; refine O.call rfl (symLen_call (s := 257 + m) H (by omega) (by omega)) ?_; rintro _ w ⟨rfl, H⟩)
        | (show O _ _ _ _ (⟨_, .binOp .sub _ _ (.const _) _, _, _, _, none⟩ :: _) _ _; refine O.val (Val.subL rfl rfl (by first | omega | assumption | decide | with_reducible exact nself | with_reducible exact rfl)) ?_)
        | (show O _ _ _ _ (⟨_, .move _, _, _, _, none⟩ :: _) _ _; first | refine O.val (Val.moveI rfl) ?_ | refine O.val (Val.moveV (by (conv => lhs; whnf); try rfl)) ?_)
        | (show O _ _ _ _ (⟨_, .assign _, _, _, _, none⟩ :: _) _ _; first | refine O.val (Val.assignI rfl) ?_ | refine O.val (Val.assignB rfl) ?_)
        | (show O _ _ _ _ (⟨_, .binOp .leq _ _ _ _, _, _, _, none⟩ :: _) _ _; refine O.val (Val.leq rfl rfl) ?_)
        | (show O _ _ _ _ (⟨_, .extract _ _, _, _, _, none⟩ :: _) _ _; refine O.val (Val.extract rfl rfl) ?_)
        | (show C _ _ (.cond _ _ _) _ _ _; refine C.ifF rfl (by first | omega | assumption | with_reducible exact nself | with_reducible exact rfl) ?_)
        )
    have hs : symL n m = symL n (m - 1) := by
      obtain ⟨j, rfl⟩ : ∃ j, m = j + 1 := ⟨m - 1, by omega⟩
      rw [symL, if_neg hb]; rfl
    exact ⟨m - 1, m - 1, by omega, ⟨H, by rw [hk, hs], by omega, rfl⟩, ⟨rfl, (by show Value.int .i64 ((257 + m - 1 : Nat) : Int) = .int .i64 ((257 + (m - 1) : Nat) : Int); rw [show 257 + m - 1 = 257 + (m - 1) from by omega]), trivial⟩⟩
theorem distSym_call {w0 w : World} {L : List Res} {n : Nat} (H : Own w0 w L) (h1 : 1 ≤ n) (h2 : n ≤ 32768) :
    Call Try.prog 36 #[.int .i64 (n : Int)] w fun r w' => r = .tuple #[.int .i64 ((symD n 29 : Nat) : Int), .int .i64 (distExtra (symD n 29) : Nat), .int .u32 ((n - distBase (symD n 29) : Nat) : Int)] ∧ Own w0 w' L := by
  refine Call.of (n := 32) (rs := [2, 3, 4]) Try.func36 rfl rfl rfl (by decide) (Nat.le_of_ble_eq_true rfl) ?_
  repeat' (first
      | with_reducible refine C.seq ?_
      | with_reducible refine C.region ?_
      | with_reducible refine C.block ?_
      | with_reducible refine J.thn ?_
      | with_reducible refine O.nil ?_
      | with_reducible refine C.skip ?_
      | (show O _ _ _ _ (⟨_, .move _, _, _, _, none⟩ :: _) _ _; first | refine O.val (Val.moveI rfl) ?_ | refine O.val (Val.moveB rfl) ?_)
      | (show O _ _ _ _ (⟨_, .assign _, _, _, _, none⟩ :: _) _ _; refine O.val (Val.assignI rfl) ?_)
      | (show O _ _ _ _ (⟨_, .binOp .lss _ _ _ _, _, _, _, none⟩ :: _) _ _; refine O.val (Val.lss rfl rfl) ?_)
      | (show O _ _ _ _ (⟨_, .binOp .gtr _ _ _ _, _, _, _, none⟩ :: _) _ _; refine O.val (Val.gtr rfl rfl) ?_)
      | (show O _ _ _ _ (⟨_, .pick _ _ _, _, _, _, none⟩ :: _) _ _; refine O.val (Val.pickDF rfl (by first | omega | assumption | decide | with_reducible exact nself | with_reducible exact rfl)) ?_)
      | (show O _ _ _ _ (⟨_, _, _, _, _, some _⟩ :: _) _ _; refine O.gF rfl rfl (by first | omega | assumption | with_reducible exact nself | with_reducible exact rfl) rfl ?_)
      | (show C _ _ (.cond _ _ _) _ _ _; refine C.ifF rfl (by first | omega | assumption | with_reducible exact nself | with_reducible exact rfl) ?_)
      )
  refine C.loopS (fun k : Nat => [(0, .int .i64 (n : Int)), (5, .int .i64 ((k : Nat) : Int))]) (fun m k w => Own w0 w L ∧ symD n 29 = symD n k ∧ k ≤ 29 ∧ m = k) 29 29 ⟨H, rfl, by omega, rfl⟩ ⟨rfl, rfl, trivial⟩ ?_
  rintro m k e w ⟨H, hk, hk28, rfl⟩
  have hbl := distBase_le ⟨m, by omega⟩
  simp only at hbl
  have hex : distExtra m ≤ 28 := by unfold distExtra; split; omega; omega
  by_cases hb : distBase m ≤ n
  · have hs : symD n 29 = m := by
      rw [hk]
      cases m with
      | zero => rfl
      | succ k => unfold symD; rw [if_pos hb]
    repeat' (first
        | with_reducible refine C.seq ?_
        | with_reducible refine C.region ?_
        | with_reducible refine C.block ?_
        | with_reducible refine J.thn ?_
        | with_reducible refine O.nil ?_
        | with_reducible refine C.ret ?_
        | with_reducible refine J.thnR ?_
        | with_reducible refine J.blkR ?_
        | with_reducible refine J.bodyR ?_
        | (show O _ _ _ _ (⟨_, .call { callee := .value (.func 35), args := _, argTypes := _ }, _, _, _, none⟩ :: _) _ _; refine O.call rfl (symDist_call (s := m) H (by omega)) ?_; rintro _ w ⟨rfl, H⟩)
        | (show O _ _ _ _ (⟨_, .move _, _, _, _, none⟩ :: _) _ _; first | refine O.val (Val.moveI rfl) ?_ | refine O.val (Val.moveV (by (conv => lhs; whnf); try rfl)) ?_)
        | (show O _ _ _ _ (⟨_, .assign _, _, _, _, none⟩ :: _) _ _; first | refine O.val (Val.assignI rfl) ?_ | refine O.val (Val.assignB rfl) ?_)
        | (show O _ _ _ _ (⟨_, .binOp .leq _ _ _ _, _, _, _, none⟩ :: _) _ _; refine O.val (Val.leq rfl rfl) ?_)
        | (show O _ _ _ _ (⟨_, .binOp .sub _ _ _ _, _, _, _, none⟩ :: _) _ _; refine O.val (Val.subN rfl rfl (by first | omega | assumption | decide | with_reducible exact nself | with_reducible exact rfl)) ?_)
        | (show O _ _ _ _ (⟨_, .extract _ _, _, _, _, none⟩ :: _) _ _; refine O.val (Val.extract rfl rfl) ?_)
        | (show O _ _ _ _ (⟨_, .convert _ _ _, _, _, _, none⟩ :: _) _ _; refine O.val (Val.convN rfl (by first | assumption | decide | ((repeat (first | assumption | decide | exact Fits.modU rfl | refine Fits.and ?_ | refine Fits.or ?_ ?_ | refine Fits.xor ?_ ?_ | refine Fits.shr ?_ | exact Fits.u8 (by first | omega | assumption) | exact Fits.u32 (by first | omega | assumption) | exact Fits.u64 (by first | omega | assumption) | exact Fits.i64 (by first | omega | assumption))); first | done | fail))) ?_)
        | (show C _ _ (.cond _ _ _) _ _ _; refine C.ifT rfl (by first | omega | assumption | with_reducible exact nself | with_reducible exact rfl) ?_)
        )
    rw [hs]
    exact ⟨rfl, H⟩
  · have hm0 : m ≠ 0 := by
      intro h; subst h
      have : distBase 0 = 1 := by decide
      omega
    repeat' (first
        | with_reducible refine C.seq ?_
        | with_reducible refine C.region ?_
        | with_reducible refine C.block ?_
        | with_reducible refine J.thn ?_
        | with_reducible refine O.nil ?_
        | with_reducible refine J.blkN ?_
        | with_reducible refine C.skip ?_
        | (show O _ _ _ _ (⟨_, .call { callee := .value (.func 35), args := _, argTypes := _ }, _, _, _, none⟩ :: _) _ _; refine O.call rfl (symDist_call (s := m) H (by omega)) ?_; rintro _ w ⟨rfl, H⟩)
        | (show O _ _ _ _ (⟨_, .binOp .sub _ _ (.const _) _, _, _, _, none⟩ :: _) _ _; refine O.val (Val.subL rfl rfl (by first | omega | assumption | decide | with_reducible exact nself | with_reducible exact rfl)) ?_)
        | (show O _ _ _ _ (⟨_, .move _, _, _, _, none⟩ :: _) _ _; first | refine O.val (Val.moveI rfl) ?_ | refine O.val (Val.moveV (by (conv => lhs; whnf); try rfl)) ?_)
        | (show O _ _ _ _ (⟨_, .assign _, _, _, _, none⟩ :: _) _ _; first | refine O.val (Val.assignI rfl) ?_ | refine O.val (Val.assignB rfl) ?_)
        | (show O _ _ _ _ (⟨_, .binOp .leq _ _ _ _, _, _, _, none⟩ :: _) _ _; refine O.val (Val.leq rfl rfl) ?_)
        | (show O _ _ _ _ (⟨_, .extract _ _, _, _, _, none⟩ :: _) _ _; refine O.val (Val.extract rfl rfl) ?_)
        | (show C _ _ (.cond _ _ _) _ _ _; refine C.ifF rfl (by first | omega | assumption | with_reducible exact nself | with_reducible exact rfl) ?_)
        )
    have hs : symD n m = symD n (m - 1) := by
      obtain ⟨j, rfl⟩ : ∃ j, m = j + 1 := ⟨m - 1, by omega⟩
      rw [symD, if_neg hb]; rfl
    exact ⟨m - 1, m - 1, by omega, ⟨H, by rw [hk, hs], by omega, rfl⟩, ⟨rfl, rfl, trivial⟩⟩
end Go.Proofs.Ytcibdcfdchpnpaa.X
