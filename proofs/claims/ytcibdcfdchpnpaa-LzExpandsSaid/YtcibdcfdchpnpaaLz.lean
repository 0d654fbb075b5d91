/- Tokens: what the calls leave. Nothing is assumed. -/
import Derived.Test.YtcibdcfdchpnpaaCloneB
import Derived.Test.YtcibdcfdchpnpaaLzS
namespace Go.Proofs.Ytcibdcfdchpnpaa.X
open Go Go.RowKit
set_option linter.unusedSimpArgs false
set_option linter.unusedVariables false

theorem recOne : ∀ (x : TokR), ∀ q ∈ tokV x, q.oneCell' = true := fun x q hq => by
  simp only [tokV, List.mem_cons, List.not_mem_nil, or_false] at hq
  rcases hq with rfl | rfl | rfl <;> rfl
theorem okTok_yes {w0 w : World} {L : List Res} {x : TokR} (H : Own w0 w L) (hx : x.ok) :
    Call Try.prog 31 #[.agg (tokV x).toArray] w fun r w' => r = .bool true ∧ Own w0 w' L := by
  refine Call.of (n := 32) (rs := [2]) Try.func31 rfl rfl rfl (by decide) (Nat.le_of_ble_eq_true rfl) ?_
  rcases hx with ⟨h1, h2⟩ | ⟨h1, h2, h3, h4, h5⟩
  · repeat' (first
      | with_reducible refine C.seq ?_
      | with_reducible refine C.region ?_
      | with_reducible refine J.thn ?_
      | with_reducible refine O.nil ?_
      | with_reducible refine C.ret ?_
      | with_reducible refine J.thnR ?_
      | with_reducible refine J.bodyR ?_
      | (show O _ _ _ _ (⟨_, .assign _, _, _, _, none⟩ :: _) _ _; refine O.val (Val.assignB rfl) ?_)
      | (show O _ _ _ _ (⟨_, .binOp .eql _ _ _ _, _, _, _, none⟩ :: _) _ _; refine O.val (Val.eql rfl rfl) ?_)
      | (show O _ _ _ _ (⟨_, .fieldAddr _ _ _, _, _, _, none⟩ :: _) _ _; refine O.val (Val.fieldAddr rfl rfl) ?_)
      | (show O _ _ _ _ (⟨_, .load _ _, _, _, _, none⟩ :: _) _ _; refine O.val (Val.loadBox rfl (H.has) (by (repeat (first | exact List.mem_cons_self | refine List.mem_cons_of_mem _ ?_)); first | done | fail) rfl) ?_)
      | (show O _ _ _ _ (⟨_, .box _ _, _, _, _, none⟩ :: _) _ _; (refine O.boxAgg rfl H ?_; intro b w H))
      | (show C _ _ (.cond _ _ _) _ _ _; refine C.ifT rfl (by first | omega | assumption | with_reducible exact nself | with_reducible exact rfl) ?_)
      )
    exact ⟨congrArg Value.bool (decide_eq_true h2), H.picks (by (repeat (first | exact Picks.refl | (apply Picks.cons; focus ((repeat (first | exact Pull.here | apply Pull.there)); done)) | apply Picks.drop)); first | done | fail)⟩
  · have h5' : ((x.lit : Nat) : Int) = 0 := by omega
    repeat' (first
        | with_reducible refine C.seq ?_
        | with_reducible refine C.region ?_
        | with_reducible refine J.thn ?_
        | with_reducible refine O.nil ?_
        | with_reducible refine C.skip ?_
        | with_reducible refine C.ret ?_
        | with_reducible refine J.bodyR ?_
        | (show O _ _ _ _ (⟨_, .move _, _, _, _, none⟩ :: _) _ _; refine O.val (Val.moveB rfl) ?_)
        | (show O _ _ _ _ (⟨_, .assign _, _, _, _, none⟩ :: _) _ _; refine O.val (Val.assignB rfl) ?_)
        | (show O _ _ _ _ (⟨_, .binOp .leq _ _ _ _, _, _, _, none⟩ :: _) _ _; refine O.val (Val.leq rfl rfl) ?_)
        | (show O _ _ _ _ (⟨_, .binOp .geq _ _ _ _, _, _, _, none⟩ :: _) _ _; refine O.val (Val.geq rfl rfl) ?_)
        | (show O _ _ _ _ (⟨_, .binOp .eql _ _ _ _, _, _, _, none⟩ :: _) _ _; refine O.val (Val.eql rfl rfl) ?_)
        | (show O _ _ _ _ (⟨_, .fieldAddr _ _ _, _, _, _, none⟩ :: _) _ _; refine O.val (Val.fieldAddr rfl rfl) ?_)
        | (show O _ _ _ _ (⟨_, .pick _ _ _, _, _, _, none⟩ :: _) _ _; refine O.val (Val.pickDT rfl (by first | omega | assumption | decide | with_reducible exact nself | with_reducible exact rfl)) ?_)
        | (show O _ _ _ _ (⟨_, .load _ _, _, _, _, none⟩ :: _) _ _; refine O.val (Val.loadBox rfl (H.has) (by (repeat (first | exact List.mem_cons_self | refine List.mem_cons_of_mem _ ?_)); first | done | fail) rfl) ?_)
        | (show O _ _ _ _ (⟨_, _, _, _, _, some _⟩ :: _) _ _; refine O.gT rfl rfl (by first | omega | assumption | with_reducible exact nself | with_reducible exact rfl) rfl ?_)
        | (show O _ _ _ _ (⟨_, .box _ _, _, _, _, none⟩ :: _) _ _; (refine O.boxAgg rfl H ?_; intro b w H))
        | (show C _ _ (.cond _ _ _) _ _ _; refine C.ifF rfl (by first | omega | assumption | with_reducible exact nself | with_reducible exact rfl) ?_)
        )
    exact ⟨congrArg Value.bool (decide_eq_true h5'), H.picks (by (repeat (first | exact Picks.refl | (apply Picks.cons; focus ((repeat (first | exact Pull.here | apply Pull.there)); done)) | apply Picks.drop)); first | done | fail)⟩
theorem okTok_no {w0 w : World} {L : List Res} {x : TokR} (H : Own w0 w L) (hx : ¬ x.ok) :
    Call Try.prog 31 #[.agg (tokV x).toArray] w fun r w' => r = .bool false ∧ Own w0 w' L := by
  refine Call.of (n := 32) (rs := [2]) Try.func31 rfl rfl rfl (by decide) (Nat.le_of_ble_eq_true rfl) ?_
  have hx' : (x.len = 0 ∧ x.dist ≠ 0) ∨ (x.len ≠ 0 ∧ x.len < 3) ∨ (3 ≤ x.len ∧ 258 < x.len) ∨ (3 ≤ x.len ∧ x.len ≤ 258 ∧ x.dist < 1) ∨ (3 ≤ x.len ∧ x.len ≤ 258 ∧ 1 ≤ x.dist ∧ 32768 < x.dist) ∨ (3 ≤ x.len ∧ x.len ≤ 258 ∧ 1 ≤ x.dist ∧ x.dist ≤ 32768 ∧ x.lit ≠ 0) := by
    unfold TokR.ok at hx; omega
  rcases hx' with ⟨h1, h2⟩ | ⟨h1, h2⟩ | ⟨h1, h2⟩ | ⟨h1, h2, h3⟩ | ⟨h1, h2, h3, h4⟩ | ⟨h1, h2, h3, h4, h5⟩
  · repeat' (first
      | with_reducible refine C.seq ?_
      | with_reducible refine C.region ?_
      | with_reducible refine J.thn ?_
      | with_reducible refine O.nil ?_
      | with_reducible refine C.ret ?_
      | with_reducible refine J.thnR ?_
      | with_reducible refine J.bodyR ?_
      | (show O _ _ _ _ (⟨_, .assign _, _, _, _, none⟩ :: _) _ _; refine O.val (Val.assignB rfl) ?_)
      | (show O _ _ _ _ (⟨_, .binOp .eql _ _ _ _, _, _, _, none⟩ :: _) _ _; refine O.val (Val.eql rfl rfl) ?_)
      | (show O _ _ _ _ (⟨_, .fieldAddr _ _ _, _, _, _, none⟩ :: _) _ _; refine O.val (Val.fieldAddr rfl rfl) ?_)
      | (show O _ _ _ _ (⟨_, .load _ _, _, _, _, none⟩ :: _) _ _; refine O.val (Val.loadBox rfl (H.has) (by (repeat (first | exact List.mem_cons_self | refine List.mem_cons_of_mem _ ?_)); first | done | fail) rfl) ?_)
      | (show O _ _ _ _ (⟨_, .box _ _, _, _, _, none⟩ :: _) _ _; (refine O.boxAgg rfl H ?_; intro b w H))
      | (show C _ _ (.cond _ _ _) _ _ _; refine C.ifT rfl (by first | omega | assumption | with_reducible exact nself | with_reducible exact rfl) ?_)
      )
    exact ⟨congrArg Value.bool (decide_eq_false h2), H.picks (by (repeat (first | exact Picks.refl | (apply Picks.cons; focus ((repeat (first | exact Pull.here | apply Pull.there)); done)) | apply Picks.drop)); first | done | fail)⟩
  · repeat' (first
      | with_reducible refine C.seq ?_
      | with_reducible refine C.region ?_
      | with_reducible refine J.thn ?_
      | with_reducible refine O.nil ?_
      | with_reducible refine C.skip ?_
      | with_reducible refine C.ret ?_
      | with_reducible refine J.bodyR ?_
      | (show O _ _ _ _ (⟨_, .move _, _, _, _, none⟩ :: _) _ _; refine O.val (Val.moveB rfl) ?_)
      | (show O _ _ _ _ (⟨_, .assign _, _, _, _, none⟩ :: _) _ _; refine O.val (Val.assignB rfl) ?_)
      | (show O _ _ _ _ (⟨_, .binOp .geq _ _ _ _, _, _, _, none⟩ :: _) _ _; refine O.val (Val.geq rfl rfl) ?_)
      | (show O _ _ _ _ (⟨_, .binOp .eql _ _ _ _, _, _, _, none⟩ :: _) _ _; refine O.val (Val.eql rfl rfl) ?_)
      | (show O _ _ _ _ (⟨_, .fieldAddr _ _ _, _, _, _, none⟩ :: _) _ _; refine O.val (Val.fieldAddr rfl rfl) ?_)
      | (show O _ _ _ _ (⟨_, .pick _ _ _, _, _, _, none⟩ :: _) _ _; first | refine O.val (Val.pickF rfl rfl) ?_ | refine O.val (Val.pickDF rfl (by first | omega | assumption | decide | with_reducible exact nself | with_reducible exact rfl)) ?_)
      | (show O _ _ _ _ (⟨_, .load _ _, _, _, _, none⟩ :: _) _ _; refine O.val (Val.loadBox rfl (H.has) (by (repeat (first | exact List.mem_cons_self | refine List.mem_cons_of_mem _ ?_)); first | done | fail) rfl) ?_)
      | (show O _ _ _ _ (⟨_, _, _, _, _, some _⟩ :: _) _ _; first | refine O.gno rfl rfl rfl ?_ | refine O.sF rfl rfl (by first | omega | assumption | with_reducible exact nself | with_reducible exact rfl) rfl ?_)
      | (show O _ _ _ _ (⟨_, .box _ _, _, _, _, none⟩ :: _) _ _; (refine O.boxAgg rfl H ?_; intro b w H))
      | (show C _ _ (.cond _ _ _) _ _ _; refine C.ifF rfl (by first | omega | assumption | with_reducible exact nself | with_reducible exact rfl) ?_)
      )
    exact ⟨rfl, H.picks (by (repeat (first | exact Picks.refl | (apply Picks.cons; focus ((repeat (first | exact Pull.here | apply Pull.there)); done)) | apply Picks.drop)); first | done | fail)⟩
  · repeat' (first
      | with_reducible refine C.seq ?_
      | with_reducible refine C.region ?_
      | with_reducible refine J.thn ?_
      | with_reducible refine O.nil ?_
      | with_reducible refine C.skip ?_
      | with_reducible refine C.ret ?_
      | with_reducible refine J.bodyR ?_
      | (show O _ _ _ _ (⟨_, .move _, _, _, _, none⟩ :: _) _ _; refine O.val (Val.moveB rfl) ?_)
      | (show O _ _ _ _ (⟨_, .assign _, _, _, _, none⟩ :: _) _ _; refine O.val (Val.assignB rfl) ?_)
      | (show O _ _ _ _ (⟨_, .binOp .leq _ _ _ _, _, _, _, none⟩ :: _) _ _; refine O.val (Val.leq rfl rfl) ?_)
      | (show O _ _ _ _ (⟨_, .binOp .geq _ _ _ _, _, _, _, none⟩ :: _) _ _; refine O.val (Val.geq rfl rfl) ?_)
      | (show O _ _ _ _ (⟨_, .binOp .eql _ _ _ _, _, _, _, none⟩ :: _) _ _; refine O.val (Val.eql rfl rfl) ?_)
      | (show O _ _ _ _ (⟨_, .fieldAddr _ _ _, _, _, _, none⟩ :: _) _ _; refine O.val (Val.fieldAddr rfl rfl) ?_)
      | (show O _ _ _ _ (⟨_, .pick _ _ _, _, _, _, none⟩ :: _) _ _; first | refine O.val (Val.pickF rfl rfl) ?_ | refine O.val (Val.pickDF rfl (by first | omega | assumption | decide | with_reducible exact nself | with_reducible exact rfl)) ?_ | refine O.val (Val.pickDT rfl (by first | omega | assumption | decide | with_reducible exact nself | with_reducible exact rfl)) ?_)
      | (show O _ _ _ _ (⟨_, .load _ _, _, _, _, none⟩ :: _) _ _; refine O.val (Val.loadBox rfl (H.has) (by (repeat (first | exact List.mem_cons_self | refine List.mem_cons_of_mem _ ?_)); first | done | fail) rfl) ?_)
      | (show O _ _ _ _ (⟨_, _, _, _, _, some _⟩ :: _) _ _; first | refine O.gno rfl rfl rfl ?_ | refine O.gT rfl rfl (by first | omega | assumption | with_reducible exact nself | with_reducible exact rfl) rfl ?_ | refine O.sF rfl rfl (by first | omega | assumption | with_reducible exact nself | with_reducible exact rfl) rfl ?_)
      | (show O _ _ _ _ (⟨_, .box _ _, _, _, _, none⟩ :: _) _ _; (refine O.boxAgg rfl H ?_; intro b w H))
      | (show C _ _ (.cond _ _ _) _ _ _; refine C.ifF rfl (by first | omega | assumption | with_reducible exact nself | with_reducible exact rfl) ?_)
      )
    exact ⟨rfl, H.picks (by (repeat (first | exact Picks.refl | (apply Picks.cons; focus ((repeat (first | exact Pull.here | apply Pull.there)); done)) | apply Picks.drop)); first | done | fail)⟩
  · repeat' (first
      | with_reducible refine C.seq ?_
      | with_reducible refine C.region ?_
      | with_reducible refine J.thn ?_
      | with_reducible refine O.nil ?_
      | with_reducible refine C.skip ?_
      | with_reducible refine C.ret ?_
      | with_reducible refine J.bodyR ?_
      | (show O _ _ _ _ (⟨_, .move _, _, _, _, none⟩ :: _) _ _; refine O.val (Val.moveB rfl) ?_)
      | (show O _ _ _ _ (⟨_, .assign _, _, _, _, none⟩ :: _) _ _; refine O.val (Val.assignB rfl) ?_)
      | (show O _ _ _ _ (⟨_, .binOp .leq _ _ _ _, _, _, _, none⟩ :: _) _ _; refine O.val (Val.leq rfl rfl) ?_)
      | (show O _ _ _ _ (⟨_, .binOp .geq _ _ _ _, _, _, _, none⟩ :: _) _ _; refine O.val (Val.geq rfl rfl) ?_)
      | (show O _ _ _ _ (⟨_, .binOp .eql _ _ _ _, _, _, _, none⟩ :: _) _ _; refine O.val (Val.eql rfl rfl) ?_)
      | (show O _ _ _ _ (⟨_, .fieldAddr _ _ _, _, _, _, none⟩ :: _) _ _; refine O.val (Val.fieldAddr rfl rfl) ?_)
      | (show O _ _ _ _ (⟨_, .pick _ _ _, _, _, _, none⟩ :: _) _ _; first | refine O.val (Val.pickF rfl rfl) ?_ | refine O.val (Val.pickDF rfl (by first | omega | assumption | decide | with_reducible exact nself | with_reducible exact rfl)) ?_ | refine O.val (Val.pickDT rfl (by first | omega | assumption | decide | with_reducible exact nself | with_reducible exact rfl)) ?_)
      | (show O _ _ _ _ (⟨_, .load _ _, _, _, _, none⟩ :: _) _ _; refine O.val (Val.loadBox rfl (H.has) (by (repeat (first | exact List.mem_cons_self | refine List.mem_cons_of_mem _ ?_)); first | done | fail) rfl) ?_)
      | (show O _ _ _ _ (⟨_, _, _, _, _, some _⟩ :: _) _ _; first | refine O.gno rfl rfl rfl ?_ | refine O.gT rfl rfl (by first | omega | assumption | with_reducible exact nself | with_reducible exact rfl) rfl ?_ | refine O.sF rfl rfl (by first | omega | assumption | with_reducible exact nself | with_reducible exact rfl) rfl ?_)
      | (show O _ _ _ _ (⟨_, .box _ _, _, _, _, none⟩ :: _) _ _; (refine O.boxAgg rfl H ?_; intro b w H))
      | (show C _ _ (.cond _ _ _) _ _ _; refine C.ifF rfl (by first | omega | assumption | with_reducible exact nself | with_reducible exact rfl) ?_)
      )
    exact ⟨rfl, H.picks (by (repeat (first | exact Picks.refl | (apply Picks.cons; focus ((repeat (first | exact Pull.here | apply Pull.there)); done)) | apply Picks.drop)); first | done | fail)⟩
  · repeat' (first
      | with_reducible refine C.seq ?_
      | with_reducible refine C.region ?_
      | with_reducible refine J.thn ?_
      | with_reducible refine O.nil ?_
      | with_reducible refine C.skip ?_
      | with_reducible refine C.ret ?_
      | with_reducible refine J.bodyR ?_
      | (show O _ _ _ _ (⟨_, .move _, _, _, _, none⟩ :: _) _ _; refine O.val (Val.moveB rfl) ?_)
      | (show O _ _ _ _ (⟨_, .assign _, _, _, _, none⟩ :: _) _ _; refine O.val (Val.assignB rfl) ?_)
      | (show O _ _ _ _ (⟨_, .binOp .leq _ _ _ _, _, _, _, none⟩ :: _) _ _; refine O.val (Val.leq rfl rfl) ?_)
      | (show O _ _ _ _ (⟨_, .binOp .geq _ _ _ _, _, _, _, none⟩ :: _) _ _; refine O.val (Val.geq rfl rfl) ?_)
      | (show O _ _ _ _ (⟨_, .binOp .eql _ _ _ _, _, _, _, none⟩ :: _) _ _; refine O.val (Val.eql rfl rfl) ?_)
      | (show O _ _ _ _ (⟨_, .fieldAddr _ _ _, _, _, _, none⟩ :: _) _ _; refine O.val (Val.fieldAddr rfl rfl) ?_)
      | (show O _ _ _ _ (⟨_, .pick _ _ _, _, _, _, none⟩ :: _) _ _; first | refine O.val (Val.pickDF rfl (by first | omega | assumption | decide | with_reducible exact nself | with_reducible exact rfl)) ?_ | refine O.val (Val.pickDT rfl (by first | omega | assumption | decide | with_reducible exact nself | with_reducible exact rfl)) ?_)
      | (show O _ _ _ _ (⟨_, .load _ _, _, _, _, none⟩ :: _) _ _; refine O.val (Val.loadBox rfl (H.has) (by (repeat (first | exact List.mem_cons_self | refine List.mem_cons_of_mem _ ?_)); first | done | fail) rfl) ?_)
      | (show O _ _ _ _ (⟨_, _, _, _, _, some _⟩ :: _) _ _; first | refine O.gT rfl rfl (by first | omega | assumption | with_reducible exact nself | with_reducible exact rfl) rfl ?_ | refine O.sF rfl rfl (by first | omega | assumption | with_reducible exact nself | with_reducible exact rfl) rfl ?_)
      | (show O _ _ _ _ (⟨_, .box _ _, _, _, _, none⟩ :: _) _ _; (refine O.boxAgg rfl H ?_; intro b w H))
      | (show C _ _ (.cond _ _ _) _ _ _; refine C.ifF rfl (by first | omega | assumption | with_reducible exact nself | with_reducible exact rfl) ?_)
      )
    exact ⟨rfl, H.picks (by (repeat (first | exact Picks.refl | (apply Picks.cons; focus ((repeat (first | exact Pull.here | apply Pull.there)); done)) | apply Picks.drop)); first | done | fail)⟩
  · have h5' : ¬ ((x.lit : Nat) : Int) = 0 := by omega
    repeat' (first
        | with_reducible refine C.seq ?_
        | with_reducible refine C.region ?_
        | with_reducible refine J.thn ?_
        | with_reducible refine O.nil ?_
        | with_reducible refine C.skip ?_
        | with_reducible refine C.ret ?_
        | with_reducible refine J.bodyR ?_
        | (show O _ _ _ _ (⟨_, .move _, _, _, _, none⟩ :: _) _ _; refine O.val (Val.moveB rfl) ?_)
        | (show O _ _ _ _ (⟨_, .assign _, _, _, _, none⟩ :: _) _ _; refine O.val (Val.assignB rfl) ?_)
        | (show O _ _ _ _ (⟨_, .binOp .leq _ _ _ _, _, _, _, none⟩ :: _) _ _; refine O.val (Val.leq rfl rfl) ?_)
        | (show O _ _ _ _ (⟨_, .binOp .geq _ _ _ _, _, _, _, none⟩ :: _) _ _; refine O.val (Val.geq rfl rfl) ?_)
        | (show O _ _ _ _ (⟨_, .binOp .eql _ _ _ _, _, _, _, none⟩ :: _) _ _; refine O.val (Val.eql rfl rfl) ?_)
        | (show O _ _ _ _ (⟨_, .fieldAddr _ _ _, _, _, _, none⟩ :: _) _ _; refine O.val (Val.fieldAddr rfl rfl) ?_)
        | (show O _ _ _ _ (⟨_, .pick _ _ _, _, _, _, none⟩ :: _) _ _; refine O.val (Val.pickDT rfl (by first | omega | assumption | decide | with_reducible exact nself | with_reducible exact rfl)) ?_)
        | (show O _ _ _ _ (⟨_, .load _ _, _, _, _, none⟩ :: _) _ _; refine O.val (Val.loadBox rfl (H.has) (by (repeat (first | exact List.mem_cons_self | refine List.mem_cons_of_mem _ ?_)); first | done | fail) rfl) ?_)
        | (show O _ _ _ _ (⟨_, _, _, _, _, some _⟩ :: _) _ _; refine O.gT rfl rfl (by first | omega | assumption | with_reducible exact nself | with_reducible exact rfl) rfl ?_)
        | (show O _ _ _ _ (⟨_, .box _ _, _, _, _, none⟩ :: _) _ _; (refine O.boxAgg rfl H ?_; intro b w H))
        | (show C _ _ (.cond _ _ _) _ _ _; refine C.ifF rfl (by first | omega | assumption | with_reducible exact nself | with_reducible exact rfl) ?_)
        )
    exact ⟨congrArg Value.bool (decide_eq_false h5'), H.picks (by (repeat (first | exact Picks.refl | (apply Picks.cons; focus ((repeat (first | exact Pull.here | apply Pull.there)); done)) | apply Picks.drop)); first | done | fail)⟩
/-- A token is put behind bytes. -/
theorem putL_no {w0 w : World} {L : List Res} {v : Value} {bs : List Nat} {x : TokR} {most : Nat} (H : Own w0 w (row1 v 5 (nat_ .u8) bs :: L)) (hl : bs.length ≤ 1000000000) (hm : most ≤ 9223372036854775807) (he : putE bs.length x most ≠ 0) :
    Call Try.prog 44 #[v, .agg (tokV x).toArray, .int .i64 (most : Int)] w fun r w' => r = .tuple #[v, .int .i64 (putE bs.length x most : Nat)] ∧ Own w0 w' (row1 v 5 (nat_ .u8) bs :: L) := by
  refine Call.of (n := 56) (rs := [6, 7]) Try.func44 rfl rfl rfl (by decide) (Nat.le_of_ble_eq_true rfl) ?_
  unfold putE at he ⊢
  by_cases h1 : x.ok
  · rw [if_neg (by simpa using h1)] at he ⊢
    by_cases h2 : (bs.length : Int) < x.dist
    · rw [if_pos h2]
      repeat' (first
          | with_reducible refine C.seq ?_
          | with_reducible refine C.region ?_
          | with_reducible refine C.block ?_
          | with_reducible refine J.thn ?_
          | with_reducible refine O.nil ?_
          | with_reducible refine C.ret ?_
          | with_reducible refine J.thnR ?_
          | with_reducible refine J.blkR ?_
          | with_reducible refine J.bodyR ?_
          | (show O _ _ _ _ (⟨_, .call { callee := .value (.func 31), args := _, argTypes := _ }, _, _, _, none⟩ :: _) _ _; refine O.call rfl (okTok_yes H h1) ?_; rintro _ w ⟨rfl, H⟩)
          | (show O _ _ _ _ (⟨_, .move _, _, _, _, none⟩ :: _) _ _; refine O.val (Val.moveV (by (conv => lhs; whnf); try rfl)) ?_)
          | (show O _ _ _ _ (⟨_, .assign _, _, _, _, none⟩ :: _) _ _; first | refine O.val (Val.assignI rfl) ?_ | refine O.val (Val.assignB rfl) ?_ | refine O.val (Val.assignV (by (conv => lhs; whnf); try rfl)) ?_)
          | (show O _ _ _ _ (⟨_, .binOp .gtr _ _ _ _, _, _, _, none⟩ :: _) _ _; refine O.val (Val.gtr rfl rfl) ?_)
          | (show O _ _ _ _ (⟨_, .unOp .not _ _, _, _, _, none⟩ :: _) _ _; refine O.val (Val.notB rfl) ?_)
          | (show O _ _ _ _ (⟨_, .fieldAddr _ _ _, _, _, _, none⟩ :: _) _ _; refine O.val (Val.fieldAddr rfl rfl) ?_)
          | (show O _ _ _ _ (⟨_, .load _ _, _, _, _, none⟩ :: _) _ _; first | refine O.val (Val.loadBox rfl (H.has) (by (repeat (first | exact List.mem_cons_self | refine List.mem_cons_of_mem _ ?_)); first | done | fail) rfl) ?_ | refine O.val (Val.loadAggBox rfl (H.has) (by (repeat (first | exact List.mem_cons_self | refine List.mem_cons_of_mem _ ?_)); first | done | fail) (by exact rfl)) ?_)
          | (show O _ _ _ _ (⟨_, .call { callee := .builtin .len, args := _, argTypes := _ }, _, _, _, none⟩ :: _) _ _; refine O.val (Val.len (by (conv => lhs; whnf); try rfl) (by first | exact (H.has).row1 (by (repeat (first | exact List.mem_cons_self | refine List.mem_cons_of_mem _ ?_)); first | done | fail) | exact (H.has).ro (by (repeat (first | exact List.mem_cons_self | refine List.mem_cons_of_mem _ ?_)); first | done | fail) | exact (H.has).rowKm (by (repeat (first | exact List.mem_cons_self | refine List.mem_cons_of_mem _ ?_)); first | done | fail) (by decide))) ?_)
          | (show O _ _ _ _ (⟨_, .box _ _, _, _, _, none⟩ :: _) _ _; (refine O.boxAgg rfl H ?_; intro b w H))
          | (show C _ _ (.cond _ _ _) _ _ _; first | with_reducible refine C.condF rfl rfl ?_ | refine C.ifT rfl (by first | omega | assumption | with_reducible exact nself | with_reducible exact rfl) ?_)
          )
      exact ⟨rfl, H.picks (by (repeat (first | exact Picks.refl | (apply Picks.cons; focus ((repeat (first | exact Pull.here | apply Pull.there)); done)) | apply Picks.drop)); first | done | fail)⟩
    · rw [if_neg h2] at he ⊢
      by_cases h3 : (most : Int) - bs.length < max x.len 1
      · rw [if_pos h3]
        repeat' (first
            | with_reducible refine C.seq ?_
            | with_reducible refine C.region ?_
            | with_reducible refine C.block ?_
            | with_reducible refine J.thn ?_
            | with_reducible refine O.nil ?_
            | with_reducible refine C.ret ?_
            | with_reducible refine J.thnR ?_
            | with_reducible refine J.blkR ?_
            | with_reducible refine J.bodyR ?_
            | (show O _ _ _ _ (⟨_, .call { callee := .value (.func 31), args := _, argTypes := _ }, _, _, _, none⟩ :: _) _ _; refine O.call rfl (okTok_yes H h1) ?_; rintro _ w ⟨rfl, H⟩)
            | (show O _ _ _ _ (⟨_, .binOp .sub _ _ _ _, _, _, _, none⟩ :: _) _ _; refine O.val (Val.subI rfl rfl (by omega)) ?_)
            | (show O _ _ _ _ (⟨_, .call { callee := .builtin .max, args := _, argTypes := _ }, _, _, _, none⟩ :: _) _ _; refine O.val (Val.max2 rfl rfl) ?_)
            | (show O _ _ _ _ (⟨_, .move _, _, _, _, none⟩ :: _) _ _; first | refine O.val (Val.moveI rfl) ?_ | refine O.val (Val.moveV (by (conv => lhs; whnf); try rfl)) ?_)
            | (show O _ _ _ _ (⟨_, .assign _, _, _, _, none⟩ :: _) _ _; first | refine O.val (Val.assignI rfl) ?_ | refine O.val (Val.assignB rfl) ?_ | refine O.val (Val.assignV (by (conv => lhs; whnf); try rfl)) ?_)
            | (show O _ _ _ _ (⟨_, .binOp .gtr _ _ _ _, _, _, _, none⟩ :: _) _ _; refine O.val (Val.gtr rfl rfl) ?_)
            | (show O _ _ _ _ (⟨_, .unOp .not _ _, _, _, _, none⟩ :: _) _ _; refine O.val (Val.notB rfl) ?_)
            | (show O _ _ _ _ (⟨_, .fieldAddr _ _ _, _, _, _, none⟩ :: _) _ _; refine O.val (Val.fieldAddr rfl rfl) ?_)
            | (show O _ _ _ _ (⟨_, .load _ _, _, _, _, none⟩ :: _) _ _; first | refine O.val (Val.loadBox rfl (H.has) (by (repeat (first | exact List.mem_cons_self | refine List.mem_cons_of_mem _ ?_)); first | done | fail) rfl) ?_ | refine O.val (Val.loadAggBox rfl (H.has) (by (repeat (first | exact List.mem_cons_self | refine List.mem_cons_of_mem _ ?_)); first | done | fail) (by exact rfl)) ?_)
            | (show O _ _ _ _ (⟨_, .call { callee := .builtin .len, args := _, argTypes := _ }, _, _, _, none⟩ :: _) _ _; refine O.val (Val.len (by (conv => lhs; whnf); try rfl) (by first | exact (H.has).row1 (by (repeat (first | exact List.mem_cons_self | refine List.mem_cons_of_mem _ ?_)); first | done | fail) | exact (H.has).ro (by (repeat (first | exact List.mem_cons_self | refine List.mem_cons_of_mem _ ?_)); first | done | fail) | exact (H.has).rowKm (by (repeat (first | exact List.mem_cons_self | refine List.mem_cons_of_mem _ ?_)); first | done | fail) (by decide))) ?_)
            | (show O _ _ _ _ (⟨_, .box _ _, _, _, _, none⟩ :: _) _ _; (refine O.boxAgg rfl H ?_; intro b w H))
            | (show C _ _ (.cond _ _ _) _ _ _; first | with_reducible refine C.condF rfl rfl ?_ | refine C.ifT rfl (by first | omega | assumption | with_reducible exact nself | with_reducible exact rfl) ?_ | refine C.ifF rfl (by first | omega | assumption | with_reducible exact nself | with_reducible exact rfl) ?_)
            )
        exact ⟨rfl, H.picks (by (repeat (first | exact Picks.refl | (apply Picks.cons; focus ((repeat (first | exact Pull.here | apply Pull.there)); done)) | apply Picks.drop)); first | done | fail)⟩
      · rw [if_neg h3] at he; exact absurd rfl he
  · rw [if_pos (by simpa using h1)]
    repeat' (first
        | with_reducible refine C.seq ?_
        | with_reducible refine C.region ?_
        | with_reducible refine C.block ?_
        | with_reducible refine J.thn ?_
        | with_reducible refine O.nil ?_
        | with_reducible refine C.ret ?_
        | with_reducible refine J.thnR ?_
        | with_reducible refine J.blkR ?_
        | with_reducible refine J.bodyR ?_
        | (show O _ _ _ _ (⟨_, .call { callee := .value (.func 31), args := _, argTypes := _ }, _, _, _, none⟩ :: _) _ _; refine O.call rfl (okTok_no H h1) ?_; rintro _ w ⟨rfl, H⟩)
        | (show O _ _ _ _ (⟨_, .move _, _, _, _, none⟩ :: _) _ _; refine O.val (Val.moveV (by (conv => lhs; whnf); try rfl)) ?_)
        | (show O _ _ _ _ (⟨_, .assign _, _, _, _, none⟩ :: _) _ _; first | refine O.val (Val.assignI rfl) ?_ | refine O.val (Val.assignB rfl) ?_ | refine O.val (Val.assignV (by (conv => lhs; whnf); try rfl)) ?_)
        | (show O _ _ _ _ (⟨_, .unOp .not _ _, _, _, _, none⟩ :: _) _ _; refine O.val (Val.notB rfl) ?_)
        | (show O _ _ _ _ (⟨_, .load _ _, _, _, _, none⟩ :: _) _ _; refine O.val (Val.loadAggBox rfl (H.has) (by (repeat (first | exact List.mem_cons_self | refine List.mem_cons_of_mem _ ?_)); first | done | fail) (by exact rfl)) ?_)
        | (show O _ _ _ _ (⟨_, .box _ _, _, _, _, none⟩ :: _) _ _; (refine O.boxAgg rfl H ?_; intro b w H))
        | (show C _ _ (.cond _ _ _) _ _ _; with_reducible refine C.condT rfl rfl ?_)
        )
    exact ⟨rfl, H.picks (by (repeat (first | exact Picks.refl | (apply Picks.cons; focus ((repeat (first | exact Pull.here | apply Pull.there)); done)) | apply Picks.drop)); first | done | fail)⟩
theorem putE_zero {n : Nat} {x : TokR} {most : Nat} (h : putE n x most = 0) : x.ok ∧ x.dist ≤ n ∧ max x.len 1 ≤ (most : Int) - n := by
  unfold putE at h
  split at h
  · cases h
  · rename_i h1
    split at h
    · cases h
    · rename_i h2
      split at h
      · cases h
      · rename_i h3
        exact ⟨by simpa using h1, by omega, by omega⟩
set_option maxHeartbeats 1000000 in
theorem putL_yes {w0 w : World} {L : List Res} {v : Value} {bs : List Nat} {x : TokR} {most : Nat} (H : Own w0 w (row1 v 5 (nat_ .u8) bs :: L)) (hl : bs.length ≤ 1000000000) (hm : most ≤ 9223372036854775807) (he : putE bs.length x most = 0) :
    Call Try.prog 44 #[v, .agg (tokV x).toArray, .int .i64 (most : Int)] w fun r w' => ∃ v', r = .tuple #[v', .int .i64 0] ∧ Own w0 w' (row1 v' 5 (nat_ .u8) (putB bs x) :: L) := by
  obtain ⟨h1, h2, h3⟩ := putE_zero he
  by_cases h0 : x.len = 0
  · refine Call.of (n := 56) (rs := [6, 7]) Try.func44 rfl rfl rfl (by decide) (Nat.le_of_ble_eq_true rfl) ?_
    repeat' (first
        | with_reducible refine C.seq ?_
        | with_reducible refine C.region ?_
        | with_reducible refine C.block ?_
        | with_reducible refine J.thn ?_
        | with_reducible refine O.nil ?_
        | with_reducible refine C.ret ?_
        | with_reducible refine J.thnR ?_
        | with_reducible refine J.blkR ?_
        | with_reducible refine J.bodyR ?_
        | (show O _ _ _ _ (⟨_, .call { callee := .value (.func 31), args := _, argTypes := _ }, _, _, _, none⟩ :: _) _ _; refine O.call rfl (okTok_yes H h1) ?_; rintro _ w ⟨rfl, H⟩)
        | (show O _ _ _ _ (⟨_, .binOp .sub _ _ _ _, _, _, _, none⟩ :: _) _ _; refine O.val (Val.subI rfl rfl (by omega)) ?_)
        | (show O _ _ _ _ (⟨_, .call { callee := .builtin .max, args := _, argTypes := _ }, _, _, _, none⟩ :: _) _ _; refine O.val (Val.max2 rfl rfl) ?_)
        | (show O _ _ _ _ (⟨_, .move _, _, _, _, none⟩ :: _) _ _; first | refine O.val (Val.moveI rfl) ?_ | refine O.val (Val.moveV (by (conv => lhs; whnf); try rfl)) ?_)
        | (show O _ _ _ _ (⟨_, .assign _, _, _, _, none⟩ :: _) _ _; first | refine O.val (Val.assignI rfl) ?_ | refine O.val (Val.assignB rfl) ?_ | refine O.val (Val.assignV (by (conv => lhs; whnf); try rfl)) ?_)
        | (show O _ _ _ _ (⟨_, .binOp .gtr _ _ _ _, _, _, _, none⟩ :: _) _ _; refine O.val (Val.gtr rfl rfl) ?_)
        | (show O _ _ _ _ (⟨_, .binOp .eql _ _ _ _, _, _, _, none⟩ :: _) _ _; refine O.val (Val.eql rfl rfl) ?_)
        | (show O _ _ _ _ (⟨_, .unOp .not _ _, _, _, _, none⟩ :: _) _ _; refine O.val (Val.notB rfl) ?_)
        | (show O _ _ _ _ (⟨_, .fieldAddr _ _ _, _, _, _, none⟩ :: _) _ _; refine O.val (Val.fieldAddr rfl rfl) ?_)
        | (show O _ _ _ _ (⟨_, .load _ _, _, _, _, none⟩ :: _) _ _; first | refine O.val (Val.loadBox rfl (H.has) (by (repeat (first | exact List.mem_cons_self | refine List.mem_cons_of_mem _ ?_)); first | done | fail) rfl) ?_ | refine O.val (Val.loadAggBox rfl (H.has) (by (repeat (first | exact List.mem_cons_self | refine List.mem_cons_of_mem _ ?_)); first | done | fail) (by exact rfl)) ?_)
        | (show O _ _ _ _ (⟨_, .call { callee := .builtin .len, args := _, argTypes := _ }, _, _, _, none⟩ :: _) _ _; refine O.val (Val.len (by (conv => lhs; whnf); try rfl) (by first | exact (H.has).row1 (by (repeat (first | exact List.mem_cons_self | refine List.mem_cons_of_mem _ ?_)); first | done | fail) | exact (H.has).ro (by (repeat (first | exact List.mem_cons_self | refine List.mem_cons_of_mem _ ?_)); first | done | fail) | exact (H.has).rowKm (by (repeat (first | exact List.mem_cons_self | refine List.mem_cons_of_mem _ ?_)); first | done | fail) (by decide))) ?_)
        | (show O _ _ _ _ (⟨_, .box _ _, _, _, _, none⟩ :: _) _ _; (refine O.boxAgg rfl H ?_; intro b w H))
        | (show O _ _ _ _ (⟨_, .buildSlice _ 1 _, _, _, _, none⟩ :: _) _ _; (refine O.buildSlice (f := nat_ .u8) (xs := [_]) rfl rfl (fun _ _ => rfl) rfl (Nat.le_of_ble_eq_true rfl) H ?_; intro v w H))
        | (show O _ _ _ _ (⟨_, .call { callee := .builtin .append, args := _, argTypes := _ }, _, _, _, none⟩ :: _) _ _; (refine O.append (by (conv => lhs; whnf); try rfl) (by (conv => lhs; whnf); try rfl) H (by (repeat (first | exact Pull.here | apply Pull.there)); first | done | fail) (by first | exact (H.has).row1 (by (repeat (first | exact List.mem_cons_self | refine List.mem_cons_of_mem _ ?_)); first | done | fail) | exact (H.has).ro (by (repeat (first | exact List.mem_cons_self | refine List.mem_cons_of_mem _ ?_)); first | done | fail) | exact (H.has).rowKm (by (repeat (first | exact List.mem_cons_self | refine List.mem_cons_of_mem _ ?_)); first | done | fail) (by decide)) (fun _ _ => rfl) rfl (by (try simp only [List.length_append, List.length_cons, List.length_nil, List.length_take, List.length_drop]); omega) ?_; intro v w H))
        | (show C _ _ (.cond _ _ _) _ _ _; first | with_reducible refine C.condF rfl rfl ?_ | refine C.ifT rfl (by first | omega | assumption | with_reducible exact nself | with_reducible exact rfl) ?_ | refine C.ifF rfl (by first | omega | assumption | with_reducible exact nself | with_reducible exact rfl) ?_)
        )
    rw [show putB bs x = bs ++ [x.lit] from by unfold putB; rw [if_pos h0]]
    exact ⟨_, rfl, H.picks (by (repeat (first | exact Picks.refl | (apply Picks.cons; focus ((repeat (first | exact Pull.here | apply Pull.there)); done)) | apply Picks.drop)); first | done | fail)⟩
  obtain ⟨ln, ds, lt⟩ := x
  simp only at h0 h2 h3
  have hok := h1
  simp only [TokR.ok] at hok
  obtain ⟨n, rfl⟩ : ∃ n : Nat, ln = n := ⟨ln.toNat, by omega⟩
  obtain ⟨d, rfl⟩ : ∃ d : Nat, ds = d := ⟨ds.toNat, by omega⟩
  have hd1 : 1 ≤ d := by omega
  have hdn : d ≤ bs.length := by omega
  have hn258 : n ≤ 258 := by omega
  show Call Try.prog 44 #[v, .agg ([.int .i64 (n : Int), .int .i64 (d : Int), .int .u8 (lt : Int)] : List Value).toArray, .int .i64 (most : Int)] w _
  refine Call.of (n := 56) (rs := [6, 7]) Try.func44 rfl rfl rfl (by decide) (Nat.le_of_ble_eq_true rfl) ?_
  repeat' (first
      | with_reducible refine C.seq ?_
      | with_reducible refine C.region ?_
      | with_reducible refine C.block ?_
      | with_reducible refine J.thn ?_
      | with_reducible refine O.nil ?_
      | with_reducible refine J.blkN ?_
      | with_reducible refine C.skip ?_
      | (show O _ _ _ _ (⟨_, .call { callee := .value (.func 31), args := _, argTypes := _ }, _, _, _, none⟩ :: _) _ _; refine O.call rfl (okTok_yes (x := ⟨n, d, lt⟩) H h1) ?_; rintro _ w ⟨rfl, H⟩)
      | (show O _ _ _ _ (⟨some 27, .binOp .sub _ _ _ _, _, _, _, none⟩ :: _) _ _; refine O.val (Val.subI rfl rfl (by omega)) ?_)
      | (show O _ _ _ _ (⟨_, .call { callee := .builtin .max, args := _, argTypes := _ }, _, _, _, none⟩ :: _) _ _; refine O.val (Val.max2 rfl rfl) ?_)
      | (show O _ _ _ _ (⟨_, .move _, _, _, _, none⟩ :: _) _ _; first | refine O.val (Val.moveI rfl) ?_ | refine O.val (Val.moveV (by (conv => lhs; whnf); try rfl)) ?_)
      | (show O _ _ _ _ (⟨_, .assign _, _, _, _, none⟩ :: _) _ _; first | refine O.val (Val.assignI rfl) ?_ | refine O.val (Val.assignB rfl) ?_ | refine O.val (Val.assignV (by (conv => lhs; whnf); try rfl)) ?_)
      | (show O _ _ _ _ (⟨_, .binOp .gtr _ _ _ _, _, _, _, none⟩ :: _) _ _; refine O.val (Val.gtr rfl rfl) ?_)
      | (show O _ _ _ _ (⟨_, .binOp .eql _ _ _ _, _, _, _, none⟩ :: _) _ _; refine O.val (Val.eql rfl rfl) ?_)
      | (show O _ _ _ _ (⟨_, .unOp .not _ _, _, _, _, none⟩ :: _) _ _; refine O.val (Val.notB rfl) ?_)
      | (show O _ _ _ _ (⟨_, .fieldAddr _ _ _, _, _, _, none⟩ :: _) _ _; refine O.val (Val.fieldAddr rfl rfl) ?_)
      | (show O _ _ _ _ (⟨_, .load _ _, _, _, _, none⟩ :: _) _ _; first | refine O.val (Val.loadBox rfl (H.has) (by (repeat (first | exact List.mem_cons_self | refine List.mem_cons_of_mem _ ?_)); first | done | fail) rfl) ?_ | refine O.val (Val.loadAggBox rfl (H.has) (by (repeat (first | exact List.mem_cons_self | refine List.mem_cons_of_mem _ ?_)); first | done | fail) (by exact rfl)) ?_)
      | (show O _ _ _ _ (⟨_, .call { callee := .builtin .len, args := _, argTypes := _ }, _, _, _, none⟩ :: _) _ _; refine O.val (Val.len (by (conv => lhs; whnf); try rfl) (by first | exact (H.has).row1 (by (repeat (first | exact List.mem_cons_self | refine List.mem_cons_of_mem _ ?_)); first | done | fail) | exact (H.has).ro (by (repeat (first | exact List.mem_cons_self | refine List.mem_cons_of_mem _ ?_)); first | done | fail) | exact (H.has).rowKm (by (repeat (first | exact List.mem_cons_self | refine List.mem_cons_of_mem _ ?_)); first | done | fail) (by decide))) ?_)
      | (show O _ _ _ _ (⟨_, .box _ _, _, _, _, none⟩ :: _) _ _; (refine O.boxAgg rfl H ?_; intro b w H))
      | (show C _ _ (.cond _ _ _) _ _ _; first | with_reducible refine C.condF rfl rfl ?_ | refine C.ifF rfl (by first | omega | assumption | with_reducible exact nself | with_reducible exact rfl) ?_)
      )
  refine C.loopS (fun s : Nat × Value => [(0, s.2), (4, .pointer (some ⟨b, 0, none⟩)), (40, .int .i64 ((n : Nat) : Int)), (41, .int .i64 ((s.1 : Nat) : Int))]) (fun m s w => Own w0 w (row1 s.2 5 (nat_ .u8) (copyB bs d s.1) :: .box b 38 [.int .i64 (n : Int), .int .i64 (d : Int), .int .u8 (lt : Int)] :: L) ∧ s.1 ≤ n ∧ m = n - s.1) n (0, v) ⟨H.picks (by (repeat (first | exact Picks.refl | (apply Picks.cons; focus ((repeat (first | exact Pull.here | apply Pull.there)); done)) | apply Picks.drop)); first | done | fail), by simp, by simp⟩ ⟨rfl, rfl, rfl, rfl, trivial⟩ ?_
  rintro m ⟨i, u⟩ e w ⟨H, hi, rfl⟩
  simp only at H hi
  dsimp only
  have hcl := copyB_len bs d i
  by_cases hin : i < n
  · repeat' (first
      | with_reducible refine C.seq ?_
      | with_reducible refine C.region ?_
      | with_reducible refine C.block ?_
      | with_reducible refine J.thn ?_
      | with_reducible refine O.nil ?_
      | with_reducible refine J.blkN ?_
      | with_reducible refine C.skip ?_
      | (show O _ _ _ _ (⟨_, .binOp .add _ _ (.const _) _, _, _, _, none⟩ :: _) _ _; refine O.val (Val.addL rfl rfl (by first | omega | assumption | decide | with_reducible exact nself | with_reducible exact rfl)) ?_)
      | (show O _ _ _ _ (⟨_, .move _, _, _, _, none⟩ :: _) _ _; first | refine O.val (Val.moveI rfl) ?_ | refine O.val (Val.moveV (by (conv => lhs; whnf); try rfl)) ?_)
      | (show O _ _ _ _ (⟨_, .assign _, _, _, _, none⟩ :: _) _ _; refine O.val (Val.assignV (by (conv => lhs; whnf); try rfl)) ?_)
      | (show O _ _ _ _ (⟨_, .binOp .lss _ _ _ _, _, _, _, none⟩ :: _) _ _; refine O.val (Val.lss rfl rfl) ?_)
      | (show O _ _ _ _ (⟨_, .binOp .sub _ _ _ _, _, _, _, none⟩ :: _) _ _; refine O.val (Val.subN rfl rfl (by first | omega | assumption | decide | with_reducible exact nself | with_reducible exact rfl)) ?_)
      | (show O _ _ _ _ (⟨_, .fieldAddr _ _ _, _, _, _, none⟩ :: _) _ _; refine O.val (Val.fieldAddr rfl rfl) ?_)
      | (show O _ _ _ _ (⟨_, .load _ _, _, _, _, none⟩ :: _) _ _; first | refine O.val (Val.loadBox rfl (H.has) (by (repeat (first | exact List.mem_cons_self | refine List.mem_cons_of_mem _ ?_)); first | done | fail) rfl) ?_ | refine O.val (Val.loadAtN rfl (by first | exact (H.has).row1 (by (repeat (first | exact List.mem_cons_self | refine List.mem_cons_of_mem _ ?_)); first | done | fail) | exact (H.has).ro (by (repeat (first | exact List.mem_cons_self | refine List.mem_cons_of_mem _ ?_)); first | done | fail) | exact (H.has).rowKm (by (repeat (first | exact List.mem_cons_self | refine List.mem_cons_of_mem _ ?_)); first | done | fail) (by decide)) (by first | omega | assumption | decide | with_reducible exact nself | with_reducible exact rfl)) ?_)
      | (show O _ _ _ _ (⟨_, .indexAddr _ _ _, _, _, _, none⟩ :: _) _ _; refine O.val (Val.idx1 (by (conv => lhs; whnf); try rfl) rfl (by first | exact (H.has).row1 (by (repeat (first | exact List.mem_cons_self | refine List.mem_cons_of_mem _ ?_)); first | done | fail) | exact (H.has).ro (by (repeat (first | exact List.mem_cons_self | refine List.mem_cons_of_mem _ ?_)); first | done | fail) | exact (H.has).rowKm (by (repeat (first | exact List.mem_cons_self | refine List.mem_cons_of_mem _ ?_)); first | done | fail) (by decide)) (by first | omega | assumption | decide | with_reducible exact nself | with_reducible exact rfl)) ?_)
      | (show O _ _ _ _ (⟨_, .call { callee := .builtin .len, args := _, argTypes := _ }, _, _, _, none⟩ :: _) _ _; refine O.val (Val.len (by (conv => lhs; whnf); try rfl) (by first | exact (H.has).row1 (by (repeat (first | exact List.mem_cons_self | refine List.mem_cons_of_mem _ ?_)); first | done | fail) | exact (H.has).ro (by (repeat (first | exact List.mem_cons_self | refine List.mem_cons_of_mem _ ?_)); first | done | fail) | exact (H.has).rowKm (by (repeat (first | exact List.mem_cons_self | refine List.mem_cons_of_mem _ ?_)); first | done | fail) (by decide))) ?_)
      | (show O _ _ _ _ (⟨_, .buildSlice _ 1 _, _, _, _, none⟩ :: _) _ _; (refine O.buildSlice (f := nat_ .u8) (xs := [_]) rfl rfl (fun _ _ => rfl) rfl (Nat.le_of_ble_eq_true rfl) H ?_; intro v w H))
      | (show O _ _ _ _ (⟨_, .call { callee := .builtin .append, args := _, argTypes := _ }, _, _, _, none⟩ :: _) _ _; (refine O.append (by (conv => lhs; whnf); try rfl) (by (conv => lhs; whnf); try rfl) H (by (repeat (first | exact Pull.here | apply Pull.there)); first | done | fail) (by first | exact (H.has).row1 (by (repeat (first | exact List.mem_cons_self | refine List.mem_cons_of_mem _ ?_)); first | done | fail) | exact (H.has).ro (by (repeat (first | exact List.mem_cons_self | refine List.mem_cons_of_mem _ ?_)); first | done | fail) | exact (H.has).rowKm (by (repeat (first | exact List.mem_cons_self | refine List.mem_cons_of_mem _ ?_)); first | done | fail) (by decide)) (fun _ _ => rfl) rfl (by (try simp only [List.length_append, List.length_cons, List.length_nil, List.length_take, List.length_drop]); omega) ?_; intro v w H))
      | (show C _ _ (.cond _ _ _) _ _ _; refine C.ifT rfl (by first | omega | assumption | with_reducible exact nself | with_reducible exact rfl) ?_)
      )
    exact ⟨n - (i + 1), (i + 1, _), by omega, ⟨H.picks (by (repeat (first | exact Picks.refl | (apply Picks.cons; focus ((repeat (first | exact Pull.here | apply Pull.there)); done)) | apply Picks.drop)); first | done | fail), hin, rfl⟩, ⟨rfl, rfl, rfl, rfl, trivial⟩⟩
  · have hin' : i = n := by omega
    rw [hin'] at H
    repeat' (first
        | with_reducible refine C.seq ?_
        | with_reducible refine C.region ?_
        | with_reducible refine J.thn ?_
        | with_reducible refine O.nil ?_
        | with_reducible refine C.exit ?_
        | with_reducible refine C.ret ?_
        | with_reducible refine J.thnE ?_
        | with_reducible refine J.blkE ?_
        | with_reducible refine J.bodyR ?_
        | (show O _ _ _ _ (⟨_, .move _, _, _, _, none⟩ :: _) _ _; refine O.val (Val.moveV (by (conv => lhs; whnf); try rfl)) ?_)
        | (show O _ _ _ _ (⟨_, .assign _, _, _, _, none⟩ :: _) _ _; first | refine O.val (Val.assignI rfl) ?_ | refine O.val (Val.assignV (by (conv => lhs; whnf); try rfl)) ?_)
        | (show O _ _ _ _ (⟨_, .binOp .lss _ _ _ _, _, _, _, none⟩ :: _) _ _; refine O.val (Val.lss rfl rfl) ?_)
        | (show C _ _ (.cond _ _ _) _ _ _; refine C.ifF rfl (by first | omega | assumption | with_reducible exact nself | with_reducible exact rfl) ?_)
        )
    have hp : putB bs ⟨n, d, lt⟩ = copyB bs d n := by unfold putB; rw [if_neg h0]; rfl
    rw [hp]
    exact ⟨_, rfl, H.picks (by (repeat (first | exact Picks.refl | (apply Picks.cons; focus ((repeat (first | exact Pull.here | apply Pull.there)); done)) | apply Picks.drop)); first | done | fail)⟩
end Go.Proofs.Ytcibdcfdchpnpaa.X
