/- Copies of rows: rows of one's own. Nothing is assumed. -/
import Derived.Test.YtcibdcfdchpnpaaMix
import Derived.Test.YtcibdcfdchpnpaaT2
import Derived.Test.YtcibdcfdchpnpaaX11
namespace Go.Proofs.Ytcibdcfdchpnpaa.X
open Go Go.RowKit
set_option linter.unusedSimpArgs false
set_option linter.unusedVariables false
/-- A copy of a row: a row of one's own. -/
theorem cloneB_call {w0 w : World} {L : List Res} {v : Value} {bs : List Nat} (H : Own w0 w L) (hr : Rd1 w0 L v (nat_ .u8) bs) (hl : bs.length ≤ 140737488355328) :
    Call Try.prog 45 #[v] w fun r w' => Own w0 w' (row1 r 5 (nat_ .u8) bs :: L) := by
  refine Call.of (n := 8) (rs := [2]) Try.func45 rfl rfl rfl (by decide) (Nat.le_of_ble_eq_true rfl) ?_
  obtain ⟨hl1, a, cap, rfl, h1, h2, h3, h4⟩ := hr _ H.has
  cases a with
  | none =>
    have : bs = [] := List.eq_nil_of_length_eq_zero (h3 rfl).1
    subst this
    repeat' (first
        | with_reducible refine C.seq ?_
        | with_reducible refine C.region ?_
        | with_reducible refine C.block ?_
        | with_reducible refine J.thn ?_
        | with_reducible refine O.nil ?_
        | with_reducible refine J.blkN ?_
        | with_reducible refine C.skip ?_
        | with_reducible refine C.exit ?_
        | with_reducible refine C.ret ?_
        | with_reducible refine J.thnE ?_
        | with_reducible refine J.thnR ?_
        | with_reducible refine J.blkE ?_
        | with_reducible refine J.blkE' (by decide) ?_
        | with_reducible refine J.blkR ?_
        | with_reducible refine J.bodyR ?_
        | with_reducible refine J.bodyN ?_
        | (show O _ _ _ _ (⟨_, .move _, _, _, _, none⟩ :: _) _ _; first | refine O.val (Val.moveI rfl) ?_ | refine O.val (Val.moveB rfl) ?_ | refine O.val (Val.moveP rfl) ?_ | refine O.val (Val.moveV (by (conv => lhs; whnf); try rfl)) ?_)
        | (show O _ _ _ _ (⟨_, .assign _, _, _, _, none⟩ :: _) _ _; first | refine O.val (Val.assignI rfl) ?_ | refine O.val (Val.assignB rfl) ?_ | refine O.val (Val.assignP rfl) ?_ | refine O.val (Val.assignV (by (conv => lhs; whnf); try rfl)) ?_)
        | (show O _ _ _ _ (⟨_, .binOp .eql _ _ _ _, _, _, _, none⟩ :: _) _ _; first | refine O.val (Val.eql rfl rfl) ?_ | refine O.val (Val.eqlS rfl rfl) ?_ | refine O.val (Val.eqlNilP rfl rfl) ?_ | refine O.val (Val.eqlNilS rfl rfl) ?_)
        | (show O _ _ _ _ (⟨_, .buildSlice _ 0 _, _, _, _, none⟩ :: _) _ _; first | (refine O.buildSlice (f := nat_ .u8) (xs := []) rfl rfl (fun _ _ => rfl) rfl (Nat.le_of_ble_eq_true rfl) H ?_; intro v w H))
        | (show O _ _ _ _ (⟨_, .call { callee := .builtin .append, args := _, argTypes := _ }, _, _, _, none⟩ :: _) _ _; first | (refine O.append (by (conv => lhs; whnf); try rfl) (by (conv => lhs; whnf); try rfl) H (by (repeat (first | exact Pull.here | apply Pull.there)); first | done | fail) (by first | exact (H.has).row1 (by (repeat (first | exact List.mem_cons_self | refine List.mem_cons_of_mem _ ?_)); first | done | fail) | exact (H.has).ro (by (repeat (first | exact List.mem_cons_self | refine List.mem_cons_of_mem _ ?_)); first | done | fail)) (fun _ _ => rfl) rfl (by (try simp only [List.length_append, List.length_cons, List.length_nil]); omega) ?_; intro v w H))
        | (show C _ _ (.cond _ _ _) _ _ _; first | with_reducible refine C.condT rfl rfl ?_ | with_reducible refine C.condF rfl rfl ?_ | refine C.ifT rfl (by first | omega | assumption | with_reducible exact nself | with_reducible exact rfl) ?_ | refine C.ifF rfl (by first | omega | assumption | with_reducible exact nself | with_reducible exact rfl) ?_ | refine C.ifd rfl (fun hif => ?_) (fun hif => ?_))
        )
    exact H.nilRow 5 1
  | some ad =>
    repeat' (first
        | with_reducible refine C.seq ?_
        | with_reducible refine C.region ?_
        | with_reducible refine C.block ?_
        | with_reducible refine J.thn ?_
        | with_reducible refine O.nil ?_
        | with_reducible refine J.blkN ?_
        | with_reducible refine C.skip ?_
        | with_reducible refine C.exit ?_
        | with_reducible refine C.ret ?_
        | with_reducible refine J.thnE ?_
        | with_reducible refine J.thnR ?_
        | with_reducible refine J.blkE ?_
        | with_reducible refine J.blkE' (by decide) ?_
        | with_reducible refine J.blkR ?_
        | with_reducible refine J.bodyR ?_
        | with_reducible refine J.bodyN ?_
        | (show O _ _ _ _ (⟨_, .move _, _, _, _, none⟩ :: _) _ _; first | refine O.val (Val.moveI rfl) ?_ | refine O.val (Val.moveB rfl) ?_ | refine O.val (Val.moveP rfl) ?_ | refine O.val (Val.moveV (by (conv => lhs; whnf); try rfl)) ?_)
        | (show O _ _ _ _ (⟨_, .assign _, _, _, _, none⟩ :: _) _ _; first | refine O.val (Val.assignI rfl) ?_ | refine O.val (Val.assignB rfl) ?_ | refine O.val (Val.assignP rfl) ?_ | refine O.val (Val.assignV (by (conv => lhs; whnf); try rfl)) ?_)
        | (show O _ _ _ _ (⟨_, .binOp .eql _ _ _ _, _, _, _, none⟩ :: _) _ _; first | refine O.val (Val.eql rfl rfl) ?_ | refine O.val (Val.eqlS rfl rfl) ?_ | refine O.val (Val.eqlNilP rfl rfl) ?_ | refine O.val (Val.eqlNilS rfl rfl) ?_)
        | (show O _ _ _ _ (⟨_, .buildSlice _ 0 _, _, _, _, none⟩ :: _) _ _; first | (refine O.buildSlice (f := nat_ .u8) (xs := []) rfl rfl (fun _ _ => rfl) rfl (Nat.le_of_ble_eq_true rfl) H ?_; intro v w H))
        | (show O _ _ _ _ (⟨_, .call { callee := .builtin .append, args := _, argTypes := _ }, _, _, _, none⟩ :: _) _ _; first | (refine O.append (by (conv => lhs; whnf); try rfl) (by (conv => lhs; whnf); try rfl) H (by (repeat (first | exact Pull.here | apply Pull.there)); first | done | fail) (by first | exact (H.has).row1 (by (repeat (first | exact List.mem_cons_self | refine List.mem_cons_of_mem _ ?_)); first | done | fail) | exact (H.has).ro (by (repeat (first | exact List.mem_cons_self | refine List.mem_cons_of_mem _ ?_)); first | done | fail) | exact hr _ ((H.has).mono (by (repeat (first | exact Sub.refl | exact Sub.nil | refine Sub.mem (by (repeat (first | exact List.mem_cons_self | refine List.mem_cons_of_mem _ ?_)); first | done | fail) ?_ | refine Sub.cons ?_)); first | done | fail))) (fun _ _ => rfl) rfl (by (try simp only [List.length_append, List.length_cons, List.length_nil]); omega) ?_; intro v w H))
        | (show C _ _ (.cond _ _ _) _ _ _; first | with_reducible refine C.condT rfl rfl ?_ | with_reducible refine C.condF rfl rfl ?_ | refine C.ifT rfl (by first | omega | assumption | with_reducible exact nself | with_reducible exact rfl) ?_ | refine C.ifF rfl (by first | omega | assumption | with_reducible exact nself | with_reducible exact rfl) ?_ | refine C.ifd rfl (fun hif => ?_) (fun hif => ?_))
        )
    rw [List.nil_append] at H
    exact H
end Go.Proofs.Ytcibdcfdchpnpaa.X
