/- Bits that are read: what the calls leave. Nothing is assumed. -/
import Derived.Test.YtmffpmmhdianeaaFeed
import Derived.Test.YtmffpmmhdianeaaNum
namespace Go.Proofs.Ytmffpmmhdianeaa.X
open Go Go.RowKit
set_option linter.unusedSimpArgs false
set_option linter.unusedVariables false
/-- A reader: its bytes, how many bits were taken. -/
abbrev rdrL (p : Nat) (bv : Value) (bs : List Nat) (m : Nat) (L : List Res) : List Res :=
  .box p 88 [bv, .int .i64 m] :: row1 bv 5 (nat_ .u8) bs :: L
theorem newReader_call {w0 w : World} {L : List Res} {v : Value} {bs : List Nat} (H : Own w0 w L) (hr : Rd1 w0 L v (nat_ .u8) bs) (hl : bs.length ≤ 1000000) :
    Call Try.prog 25 #[v] w fun r w' => ∃ p bv, r = .pointer (some ⟨p, 0, none⟩) ∧ Own w0 w' (rdrL p bv bs 0 L) := by
  refine Call.of (n := 7) (rs := [2]) Try.func25 rfl rfl rfl (by decide) (Nat.le_of_ble_eq_true rfl) ?_
  repeat' (first
      | with_reducible refine C.seq ?_
      | with_reducible refine C.region ?_
      | with_reducible refine C.block ?_
      | with_reducible refine J.thn ?_
      | with_reducible refine O.nil ?_
      | with_reducible refine J.blkN ?_
      | with_reducible refine C.skip ?_
      | with_reducible refine C.exit ?_
      | with_reducible refine C.ret ?_
      | with_reducible refine J.thnE ?_
      | with_reducible refine J.thnR ?_
      | with_reducible refine J.blkE ?_
      | with_reducible refine J.blkE' (by decide) ?_
      | with_reducible refine J.blkR ?_
      | with_reducible refine J.bodyR ?_
      | with_reducible refine J.bodyN ?_
      | (show O _ _ _ _ (⟨_, .call { callee := .value (.func 54), args := _, argTypes := _ }, _, _, _, none⟩ :: _) _ _; refine O.call rfl (cloneB_call H hr (by omega)) ?_; rintro bv w H)
      | (show O _ _ _ _ (⟨_, .move _, _, _, _, none⟩ :: _) _ _; first | refine O.val (Val.moveI rfl) ?_ | refine O.val (Val.moveB rfl) ?_ | refine O.val (Val.moveP rfl) ?_ | refine O.val (Val.moveV (by (conv => lhs; whnf); try rfl)) ?_)
      | (show O _ _ _ _ (⟨_, .assign _, _, _, _, none⟩ :: _) _ _; first | refine O.val (Val.assignI rfl) ?_ | refine O.val (Val.assignB rfl) ?_ | refine O.val (Val.assignP rfl) ?_ | refine O.val (Val.assignV (by (conv => lhs; whnf); try rfl)) ?_)
      | (show O _ _ _ _ (⟨_, .build _ _, _, _, _, none⟩ :: _) _ _; first | refine O.val (Val.buildS rfl rfl) ?_ | refine O.val (Val.buildF (by (repeat (first | exact Fields.nil | (apply Fields.one; (conv => lhs; whnf); (exact (by first | rfl | exact (H.has).one (by (repeat (first | exact List.mem_cons_self | refine List.mem_cons_of_mem _ ?_)); first | done | fail) | exact (H.has).oneRo (by (repeat (first | exact List.mem_cons_self | refine List.mem_cons_of_mem _ ?_)); first | done | fail) | exact (hr _ ((H.has).mono (by (repeat (first | exact Sub.refl | exact Sub.nil | refine Sub.mem (by (repeat (first | exact List.mem_cons_self | refine List.mem_cons_of_mem _ ?_)); first | done | fail) ?_ | refine Sub.cons ?_)); first | done | fail))).one))))); first | done | fail) rfl) ?_)
      | (show O _ _ _ _ (⟨_, .box _ _, _, _, _, none⟩ :: _) _ _; first | (refine O.boxAgg rfl H ?_; intro b w H))
      | (show C _ _ (.cond _ _ _) _ _ _; first | with_reducible refine C.condT rfl rfl ?_ | with_reducible refine C.condF rfl rfl ?_ | refine C.ifT rfl (by first | omega | assumption | with_reducible exact nself | with_reducible exact rfl) ?_ | refine C.ifF rfl (by first | omega | assumption | with_reducible exact nself | with_reducible exact rfl) ?_ | refine C.ifd rfl (fun hif => ?_) (fun hif => ?_))
      )
  exact ⟨b, bv, rfl, H.picks (by (repeat (first | exact Picks.refl | (apply Picks.cons; focus ((repeat (first | exact Pull.here | apply Pull.there)); done)) | apply Picks.drop)); first | done | fail)⟩
theorem rdAt_call {w0 w : World} {L : List Res} {p : Nat} {bv : Value} {bs : List Nat} {m : Nat} (H : Own w0 w (rdrL p bv bs m L)) :
    Call Try.prog 52 #[.pointer (some ⟨p, 0, none⟩)] w fun r w' => r = .int .i64 (m : Int) ∧ Own w0 w' (rdrL p bv bs m L) := by
  refine Call.of (n := 7) (rs := [2]) Try.func52 rfl rfl rfl (by decide) (Nat.le_of_ble_eq_true rfl) ?_
  repeat' (first
      | with_reducible refine C.seq ?_
      | with_reducible refine C.region ?_
      | with_reducible refine C.block ?_
      | with_reducible refine J.thn ?_
      | with_reducible refine O.nil ?_
      | with_reducible refine J.blkN ?_
      | with_reducible refine C.skip ?_
      | with_reducible refine C.exit ?_
      | with_reducible refine C.ret ?_
      | with_reducible refine J.thnE ?_
      | with_reducible refine J.thnR ?_
      | with_reducible refine J.blkE ?_
      | with_reducible refine J.blkE' (by decide) ?_
      | with_reducible refine J.blkR ?_
      | with_reducible refine J.bodyR ?_
      | with_reducible refine J.bodyN ?_
      | (show O _ _ _ _ (⟨_, .move _, _, _, _, none⟩ :: _) _ _; first | refine O.val (Val.moveI rfl) ?_ | refine O.val (Val.moveB rfl) ?_ | refine O.val (Val.moveP rfl) ?_ | refine O.val (Val.moveV (by (conv => lhs; whnf); try rfl)) ?_)
      | (show O _ _ _ _ (⟨_, .assign _, _, _, _, none⟩ :: _) _ _; first | refine O.val (Val.assignI rfl) ?_ | refine O.val (Val.assignB rfl) ?_ | refine O.val (Val.assignP rfl) ?_ | refine O.val (Val.assignV (by (conv => lhs; whnf); try rfl)) ?_)
      | (show O _ _ _ _ (⟨_, .nilCheck _, _, _, _, none⟩ :: _) _ _; first | refine O.val (Val.nilCheck rfl) ?_)
      | (show O _ _ _ _ (⟨_, .fieldAddr _ _ _, _, _, _, none⟩ :: _) _ _; first | refine O.val (Val.fieldAddr rfl rfl) ?_)
      | (show O _ _ _ _ (⟨_, .load _ _, _, _, _, none⟩ :: _) _ _; first | refine O.val (Val.loadBox rfl (H.has) (by (repeat (first | exact List.mem_cons_self | refine List.mem_cons_of_mem _ ?_)); first | done | fail) rfl) ?_ | refine O.val (Val.loadAtN rfl (by first | exact (H.has).row1 (by (repeat (first | exact List.mem_cons_self | refine List.mem_cons_of_mem _ ?_)); first | done | fail) | exact (H.has).ro (by (repeat (first | exact List.mem_cons_self | refine List.mem_cons_of_mem _ ?_)); first | done | fail)) (by first | omega | assumption)) ?_ | refine O.val (Val.loadAtV rfl (by first | exact (H.has).row1 (by (repeat (first | exact List.mem_cons_self | refine List.mem_cons_of_mem _ ?_)); first | done | fail) | exact (H.has).ro (by (repeat (first | exact List.mem_cons_self | refine List.mem_cons_of_mem _ ?_)); first | done | fail)) (by first | omega | assumption)) ?_ | refine O.val (Val.loadAtI rfl (by first | exact (H.has).row1 (by (repeat (first | exact List.mem_cons_self | refine List.mem_cons_of_mem _ ?_)); first | done | fail) | exact (H.has).ro (by (repeat (first | exact List.mem_cons_self | refine List.mem_cons_of_mem _ ?_)); first | done | fail)) (by first | omega | assumption)) ?_)
      | (show C _ _ (.cond _ _ _) _ _ _; first | with_reducible refine C.condT rfl rfl ?_ | with_reducible refine C.condF rfl rfl ?_ | refine C.ifT rfl (by first | omega | assumption | with_reducible exact nself | with_reducible exact rfl) ?_ | refine C.ifF rfl (by first | omega | assumption | with_reducible exact nself | with_reducible exact rfl) ?_ | refine C.ifd rfl (fun hif => ?_) (fun hif => ?_))
      )
  exact ⟨rfl, H⟩
theorem rdLeft_call {w0 w : World} {L : List Res} {p : Nat} {bv : Value} {bs : List Nat} {m : Nat} (H : Own w0 w (rdrL p bv bs m L)) (hl : bs.length ≤ 1000000) (hm : m ≤ 8 * bs.length) :
    Call Try.prog 27 #[.pointer (some ⟨p, 0, none⟩)] w fun r w' => r = .int .i64 ((8 * bs.length - m : Nat) : Int) ∧ Own w0 w' (rdrL p bv bs m L) := by
  refine Call.of (n := 14) (rs := [2]) Try.func27 rfl rfl rfl (by decide) (Nat.le_of_ble_eq_true rfl) ?_
  have hsub : Value.int .i64 (8 * (bs.length : Int) - (m : Int)) = .int .i64 ((8 * bs.length - m : Nat) : Int) := by congr 1; omega
  repeat' (first
      | with_reducible refine C.seq ?_
      | with_reducible refine C.region ?_
      | with_reducible refine C.block ?_
      | with_reducible refine J.thn ?_
      | with_reducible refine O.nil ?_
      | with_reducible refine J.blkN ?_
      | with_reducible refine C.skip ?_
      | with_reducible refine C.exit ?_
      | with_reducible refine C.ret ?_
      | with_reducible refine J.thnE ?_
      | with_reducible refine J.thnR ?_
      | with_reducible refine J.blkE ?_
      | with_reducible refine J.blkE' (by decide) ?_
      | with_reducible refine J.blkR ?_
      | with_reducible refine J.bodyR ?_
      | with_reducible refine J.bodyN ?_
      | (show O _ _ _ _ (⟨_, .move _, _, _, _, none⟩ :: _) _ _; first | refine O.val (Val.moveI rfl) ?_ | refine O.val (Val.moveB rfl) ?_ | refine O.val (Val.moveP rfl) ?_ | refine O.val (Val.moveV (by (conv => lhs; whnf); try rfl)) ?_)
      | (show O _ _ _ _ (⟨_, .assign _, _, _, _, none⟩ :: _) _ _; first | refine O.val (Val.assignI rfl) ?_ | refine O.val (Val.assignB rfl) ?_ | refine O.val (Val.assignP rfl) ?_ | refine O.val (Val.assignV (by (conv => lhs; whnf); try rfl)) ?_)
      | (show O _ _ _ _ (⟨_, .binOp .sub _ _ _ _, _, _, _, none⟩ :: _) _ _; first | refine O.val (Val.subI rfl rfl (by first | omega | assumption)) ?_ | refine O.val (Val.subU rfl rfl (by first | assumption | decide | ((repeat (first | assumption | decide | exact Fits.modU rfl | refine Fits.and ?_ | refine Fits.or ?_ ?_ | refine Fits.xor ?_ ?_ | refine Fits.shr ?_ | exact Fits.u8 (by first | omega | assumption) | exact Fits.u32 (by first | omega | assumption) | exact Fits.u64 (by first | omega | assumption) | exact Fits.i64 (by first | omega | assumption))); first | done | fail)) (by first | omega | assumption)) ?_)
      | (show O _ _ _ _ (⟨_, .binOp .mul _ _ _ _, _, _, _, none⟩ :: _) _ _; first | refine O.val (Val.mulI rfl rfl (by first | omega | assumption)) ?_ | refine O.val (Val.mulU rfl rfl rfl) ?_)
      | (show O _ _ _ _ (⟨_, .nilCheck _, _, _, _, none⟩ :: _) _ _; first | refine O.val (Val.nilCheck rfl) ?_)
      | (show O _ _ _ _ (⟨_, .fieldAddr _ _ _, _, _, _, none⟩ :: _) _ _; first | refine O.val (Val.fieldAddr rfl rfl) ?_)
      | (show O _ _ _ _ (⟨_, .load _ _, _, _, _, none⟩ :: _) _ _; first | refine O.val (Val.loadBox rfl (H.has) (by (repeat (first | exact List.mem_cons_self | refine List.mem_cons_of_mem _ ?_)); first | done | fail) rfl) ?_ | refine O.val (Val.loadAtN rfl (by first | exact (H.has).row1 (by (repeat (first | exact List.mem_cons_self | refine List.mem_cons_of_mem _ ?_)); first | done | fail) | exact (H.has).ro (by (repeat (first | exact List.mem_cons_self | refine List.mem_cons_of_mem _ ?_)); first | done | fail)) (by first | omega | assumption)) ?_ | refine O.val (Val.loadAtV rfl (by first | exact (H.has).row1 (by (repeat (first | exact List.mem_cons_self | refine List.mem_cons_of_mem _ ?_)); first | done | fail) | exact (H.has).ro (by (repeat (first | exact List.mem_cons_self | refine List.mem_cons_of_mem _ ?_)); first | done | fail)) (by first | omega | assumption)) ?_ | refine O.val (Val.loadAtI rfl (by first | exact (H.has).row1 (by (repeat (first | exact List.mem_cons_self | refine List.mem_cons_of_mem _ ?_)); first | done | fail) | exact (H.has).ro (by (repeat (first | exact List.mem_cons_self | refine List.mem_cons_of_mem _ ?_)); first | done | fail)) (by first | omega | assumption)) ?_)
      | (show O _ _ _ _ (⟨_, .call { callee := .builtin .len, args := _, argTypes := _ }, _, _, _, none⟩ :: _) _ _; first | refine O.val (Val.lenStr rfl) ?_ | refine O.val (Val.len (by (conv => lhs; whnf); try rfl) (by first | exact (H.has).row1 (by (repeat (first | exact List.mem_cons_self | refine List.mem_cons_of_mem _ ?_)); first | done | fail) | exact (H.has).ro (by (repeat (first | exact List.mem_cons_self | refine List.mem_cons_of_mem _ ?_)); first | done | fail))) ?_)
      | (show C _ _ (.cond _ _ _) _ _ _; first | with_reducible refine C.condT rfl rfl ?_ | with_reducible refine C.condF rfl rfl ?_ | refine C.ifT rfl (by first | omega | assumption | with_reducible exact nself | with_reducible exact rfl) ?_ | refine C.ifF rfl (by first | omega | assumption | with_reducible exact nself | with_reducible exact rfl) ?_ | refine C.ifd rfl (fun hif => ?_) (fun hif => ?_))
      )
  (refine C.drawnAll [3, 4, 9] (.take 0 (.take 1 (.take 2 (.takeS 3 (.takeS 4 (.take 5 (.take 6 (.take 7 (.take 8 (.takeS 9 (.take 10 (.take 11 .done)))))))))))) (by kernel_rfl) (by (repeat (first | exact NoPan.body | exact NoPan.endS | refine NoPan.thn ?_ | refine NoPan.blk ?_)); first | done | fail) H ?_; intro w H hS)
  repeat' (first
      | with_reducible refine D.done ?_
      | refine D.take rfl ?_
      | refine D.takeS rfl ?_
      | refine D.solo rfl rfl ?_
      | (show DT _ _ _ _ _ _ (⟨_, .binOp .sub _ _ _ _, _, _, _, none⟩) _ _ _; refine DT.val (fun _ => Val.as (Val.subI rfl rfl (by first | omega | assumption)) hsub) ?_)
      | (show DT _ _ _ _ _ _ ⟨_, .move _, _, _, _, none⟩ _ _ _; first | refine DT.val (fun _ => Val.moveI rfl) ?_ | refine DT.val (fun _ => Val.moveB rfl) ?_ | refine DT.val (fun _ => Val.moveP rfl) ?_ | refine DT.val (fun _ => Val.moveV (by (conv => lhs; whnf); try rfl)) ?_)
      | (show DT _ _ _ _ _ _ ⟨_, .assign _, _, _, _, none⟩ _ _ _; first | refine DT.val (fun _ => Val.assignI rfl) ?_ | refine DT.val (fun _ => Val.assignB rfl) ?_ | refine DT.val (fun _ => Val.assignP rfl) ?_ | refine DT.val (fun _ => Val.assignV (by (conv => lhs; whnf); try rfl)) ?_)
      | (show DT _ _ _ _ _ _ ⟨_, .binOp .sub _ _ _ _, _, _, _, none⟩ _ _ _; first | refine DT.val (fun _ => Val.subI rfl rfl (by first | omega | assumption)) ?_ | refine DT.val (fun _ => Val.subU rfl rfl (by first | assumption | decide | ((repeat (first | assumption | decide | exact Fits.modU rfl | refine Fits.and ?_ | refine Fits.or ?_ ?_ | refine Fits.xor ?_ ?_ | refine Fits.shr ?_ | exact Fits.u8 (by first | omega | assumption) | exact Fits.u32 (by first | omega | assumption) | exact Fits.u64 (by first | omega | assumption) | exact Fits.i64 (by first | omega | assumption))); first | done | fail)) (by first | omega | assumption)) ?_)
      | (show DT _ _ _ _ _ _ ⟨_, .binOp .mul _ _ _ _, _, _, _, none⟩ _ _ _; first | refine DT.val (fun _ => Val.mulI rfl rfl (by first | omega | assumption)) ?_ | refine DT.val (fun _ => Val.mulU rfl rfl rfl) ?_)
      | (show DT _ _ _ _ _ _ ⟨_, .nilCheck _, _, _, _, none⟩ _ _ _; first | refine DT.val (fun _ => Val.nilCheck rfl) ?_)
      | (show DT _ _ _ _ _ _ ⟨_, .fieldAddr _ _ _, _, _, _, none⟩ _ _ _; first | refine DT.val (fun _ => Val.fieldAddr rfl rfl) ?_)
      | (show DS _ _ _ _ _ _ ⟨_, .load _ _, _, _, _, none⟩ _ _ _; first | refine DS.val (by first | exact hS | exact H.has.mono (by (repeat (first | exact Sub.refl | exact Sub.nil | refine Sub.mem (by (repeat (first | exact List.mem_cons_self | refine List.mem_cons_of_mem _ ?_)); first | done | fail) ?_ | refine Sub.cons ?_)); first | done | fail)) (fun _ hS => Val.loadBox rfl (hS) (by (repeat (first | exact List.mem_cons_self | refine List.mem_cons_of_mem _ ?_)); first | done | fail) rfl) ?_ | refine DS.val (by first | exact hS | exact H.has.mono (by (repeat (first | exact Sub.refl | exact Sub.nil | refine Sub.mem (by (repeat (first | exact List.mem_cons_self | refine List.mem_cons_of_mem _ ?_)); first | done | fail) ?_ | refine Sub.cons ?_)); first | done | fail)) (fun _ hS => Val.loadAtN rfl (by first | exact (hS).row1 (by (repeat (first | exact List.mem_cons_self | refine List.mem_cons_of_mem _ ?_)); first | done | fail) | exact (hS).ro (by (repeat (first | exact List.mem_cons_self | refine List.mem_cons_of_mem _ ?_)); first | done | fail)) (by first | omega | assumption)) ?_ | refine DS.val (by first | exact hS | exact H.has.mono (by (repeat (first | exact Sub.refl | exact Sub.nil | refine Sub.mem (by (repeat (first | exact List.mem_cons_self | refine List.mem_cons_of_mem _ ?_)); first | done | fail) ?_ | refine Sub.cons ?_)); first | done | fail)) (fun _ hS => Val.loadAtV rfl (by first | exact (hS).row1 (by (repeat (first | exact List.mem_cons_self | refine List.mem_cons_of_mem _ ?_)); first | done | fail) | exact (hS).ro (by (repeat (first | exact List.mem_cons_self | refine List.mem_cons_of_mem _ ?_)); first | done | fail)) (by first | omega | assumption)) ?_ | refine DS.val (by first | exact hS | exact H.has.mono (by (repeat (first | exact Sub.refl | exact Sub.nil | refine Sub.mem (by (repeat (first | exact List.mem_cons_self | refine List.mem_cons_of_mem _ ?_)); first | done | fail) ?_ | refine Sub.cons ?_)); first | done | fail)) (fun _ hS => Val.loadAtI rfl (by first | exact (hS).row1 (by (repeat (first | exact List.mem_cons_self | refine List.mem_cons_of_mem _ ?_)); first | done | fail) | exact (hS).ro (by (repeat (first | exact List.mem_cons_self | refine List.mem_cons_of_mem _ ?_)); first | done | fail)) (by first | omega | assumption)) ?_)
      | (show DS _ _ _ _ _ _ ⟨_, .call { callee := .builtin .len, args := _, argTypes := _ }, _, _, _, none⟩ _ _ _; first | refine DS.val (by first | exact hS | exact H.has.mono (by (repeat (first | exact Sub.refl | exact Sub.nil | refine Sub.mem (by (repeat (first | exact List.mem_cons_self | refine List.mem_cons_of_mem _ ?_)); first | done | fail) ?_ | refine Sub.cons ?_)); first | done | fail)) (fun _ hS => Val.lenStr rfl) ?_ | refine DS.val (by first | exact hS | exact H.has.mono (by (repeat (first | exact Sub.refl | exact Sub.nil | refine Sub.mem (by (repeat (first | exact List.mem_cons_self | refine List.mem_cons_of_mem _ ?_)); first | done | fail) ?_ | refine Sub.cons ?_)); first | done | fail)) (fun _ hS => Val.len (by (conv => lhs; whnf); try rfl) (by first | exact (hS).row1 (by (repeat (first | exact List.mem_cons_self | refine List.mem_cons_of_mem _ ?_)); first | done | fail) | exact (hS).ro (by (repeat (first | exact List.mem_cons_self | refine List.mem_cons_of_mem _ ?_)); first | done | fail))) ?_)
      )
  repeat' (first
      | with_reducible refine C.seq ?_
      | with_reducible refine C.region ?_
      | with_reducible refine C.block ?_
      | with_reducible refine J.thn ?_
      | with_reducible refine O.nil ?_
      | with_reducible refine J.blkN ?_
      | with_reducible refine C.skip ?_
      | with_reducible refine C.exit ?_
      | with_reducible refine C.ret ?_
      | with_reducible refine J.thnE ?_
      | with_reducible refine J.thnR ?_
      | with_reducible refine J.blkE ?_
      | with_reducible refine J.blkE' (by decide) ?_
      | with_reducible refine J.blkR ?_
      | with_reducible refine J.bodyR ?_
      | with_reducible refine J.bodyN ?_
      | (show O _ _ _ _ (⟨_, .move _, _, _, _, none⟩ :: _) _ _; first | refine O.val (Val.moveI rfl) ?_ | refine O.val (Val.moveB rfl) ?_ | refine O.val (Val.moveP rfl) ?_ | refine O.val (Val.moveV (by (conv => lhs; whnf); try rfl)) ?_)
      | (show O _ _ _ _ (⟨_, .assign _, _, _, _, none⟩ :: _) _ _; first | refine O.val (Val.assignI rfl) ?_ | refine O.val (Val.assignB rfl) ?_ | refine O.val (Val.assignP rfl) ?_ | refine O.val (Val.assignV (by (conv => lhs; whnf); try rfl)) ?_)
      | (show O _ _ _ _ (⟨_, .binOp .sub _ _ _ _, _, _, _, none⟩ :: _) _ _; first | refine O.val (Val.subI rfl rfl (by first | omega | assumption)) ?_ | refine O.val (Val.subU rfl rfl (by first | assumption | decide | ((repeat (first | assumption | decide | exact Fits.modU rfl | refine Fits.and ?_ | refine Fits.or ?_ ?_ | refine Fits.xor ?_ ?_ | refine Fits.shr ?_ | exact Fits.u8 (by first | omega | assumption) | exact Fits.u32 (by first | omega | assumption) | exact Fits.u64 (by first | omega | assumption) | exact Fits.i64 (by first | omega | assumption))); first | done | fail)) (by first | omega | assumption)) ?_)
      | (show O _ _ _ _ (⟨_, .binOp .mul _ _ _ _, _, _, _, none⟩ :: _) _ _; first | refine O.val (Val.mulI rfl rfl (by first | omega | assumption)) ?_ | refine O.val (Val.mulU rfl rfl rfl) ?_)
      | (show O _ _ _ _ (⟨_, .nilCheck _, _, _, _, none⟩ :: _) _ _; first | refine O.val (Val.nilCheck rfl) ?_)
      | (show O _ _ _ _ (⟨_, .fieldAddr _ _ _, _, _, _, none⟩ :: _) _ _; first | refine O.val (Val.fieldAddr rfl rfl) ?_)
      | (show O _ _ _ _ (⟨_, .load _ _, _, _, _, none⟩ :: _) _ _; first | refine O.val (Val.loadBox rfl (H.has) (by (repeat (first | exact List.mem_cons_self | refine List.mem_cons_of_mem _ ?_)); first | done | fail) rfl) ?_ | refine O.val (Val.loadAtN rfl (by first | exact (H.has).row1 (by (repeat (first | exact List.mem_cons_self | refine List.mem_cons_of_mem _ ?_)); first | done | fail) | exact (H.has).ro (by (repeat (first | exact List.mem_cons_self | refine List.mem_cons_of_mem _ ?_)); first | done | fail)) (by first | omega | assumption)) ?_ | refine O.val (Val.loadAtV rfl (by first | exact (H.has).row1 (by (repeat (first | exact List.mem_cons_self | refine List.mem_cons_of_mem _ ?_)); first | done | fail) | exact (H.has).ro (by (repeat (first | exact List.mem_cons_self | refine List.mem_cons_of_mem _ ?_)); first | done | fail)) (by first | omega | assumption)) ?_ | refine O.val (Val.loadAtI rfl (by first | exact (H.has).row1 (by (repeat (first | exact List.mem_cons_self | refine List.mem_cons_of_mem _ ?_)); first | done | fail) | exact (H.has).ro (by (repeat (first | exact List.mem_cons_self | refine List.mem_cons_of_mem _ ?_)); first | done | fail)) (by first | omega | assumption)) ?_)
      | (show O _ _ _ _ (⟨_, .call { callee := .builtin .len, args := _, argTypes := _ }, _, _, _, none⟩ :: _) _ _; first | refine O.val (Val.lenStr rfl) ?_ | refine O.val (Val.len (by (conv => lhs; whnf); try rfl) (by first | exact (H.has).row1 (by (repeat (first | exact List.mem_cons_self | refine List.mem_cons_of_mem _ ?_)); first | done | fail) | exact (H.has).ro (by (repeat (first | exact List.mem_cons_self | refine List.mem_cons_of_mem _ ?_)); first | done | fail))) ?_)
      | (show C _ _ (.cond _ _ _) _ _ _; first | with_reducible refine C.condT rfl rfl ?_ | with_reducible refine C.condF rfl rfl ?_ | refine C.ifT rfl (by first | omega | assumption | with_reducible exact nself | with_reducible exact rfl) ?_ | refine C.ifF rfl (by first | omega | assumption | with_reducible exact nself | with_reducible exact rfl) ?_ | refine C.ifd rfl (fun hif => ?_) (fun hif => ?_))
      )
  exact ⟨rfl, H⟩
theorem step_num {bs : List Nat} (hb : Bytes bs) {q i : Nat} (hi : i ≤ 4) (hq : q + i < bs.length) : num ((bs.drop q).take i) ||| (bs.getD (q + i) 0 <<< (8 * i)) % 2 ^ IntKind.u64.bits = num ((bs.drop q).take (i + 1)) := by
  have h1 := hb.at (q + i)
  have h2 : bs.getD (q + i) 0 <<< (8 * i) < 2 ^ 64 := by
    rw [Nat.shiftLeft_eq]
    have : 2 ^ (8 * i) ≤ 2 ^ 32 := Nat.pow_le_pow_right (by decide) (by omega)
    calc bs.getD (q + i) 0 * 2 ^ (8 * i) ≤ 256 * 2 ^ 32 := Nat.mul_le_mul (by omega) this
      _ < 2 ^ 64 := by decide
  have h3 := num_lt ((hb.drop q).take i)
  have hl : ((bs.drop q).take i).length = i := by rw [List.length_take, List.length_drop]; omega
  rw [hl, pow256] at h3
  have h4 : (bs.drop q).getD i 0 = bs.getD (q + i) 0 := by simp [List.getD]
  rw [Nat.mod_eq_of_lt (show _ < 2 ^ IntKind.u64.bits from h2), or_shl h3, num_snoc (by rw [List.length_drop]; omega), h4]
theorem num_fits {bs : List Nat} (hb : Bytes bs) {q i : Nat} (hi : i ≤ 5) : Fits .u64 (num ((bs.drop q).take i)) := by
  have h3 := num_lt ((hb.drop q).take i)
  have hl : ((bs.drop q).take i).length ≤ 5 := by rw [List.length_take, List.length_drop]; omega
  have : 256 ^ ((bs.drop q).take i).length ≤ 256 ^ 5 := Nat.pow_le_pow_right (by decide) hl
  exact Fits.u64 (by omega)
theorem mask_num (X : Nat) {n : Nat} (hn : n ≤ 32) : (X &&& ((1 <<< n) % 2 ^ IntKind.u64.bits - 1)) % 2 ^ IntKind.u32.bits = X % 2 ^ n := by
  have h1 : 1 <<< n = 2 ^ n := by rw [Nat.shiftLeft_eq, Nat.one_mul]
  have h2 : 2 ^ n ≤ 2 ^ 32 := Nat.pow_le_pow_right (by decide) hn
  have h3 : (2 : Nat) ^ 32 < 2 ^ IntKind.u64.bits := by decide
  have h4 : 2 ^ n % 2 ^ IntKind.u64.bits = 2 ^ n := Nat.mod_eq_of_lt (Nat.lt_of_le_of_lt h2 h3)
  rw [h1, h4, Nat.and_two_pow_sub_one_eq_mod]
  apply Nat.mod_eq_of_lt
  have := Nat.mod_lt X (Nat.pow_pos (n := n) (show 0 < 2 by decide))
  exact Nat.lt_of_lt_of_le this h2
/-- How many bits are looked at. -/
def pkN (z : Int) (left : Nat) : Nat := (min (min (max z 0) 32) (left : Int)).toNat
set_option maxRecDepth 100000 in
theorem peek_call {w0 w : World} {L : List Res} {p : Nat} {bv : Value} {bs : List Nat} {m : Nat} {z : Int} (H : Own w0 w (rdrL p bv bs m L)) (hb : Bytes bs) (hl : bs.length ≤ 1000000) (hm : m ≤ 8 * bs.length) :
    Call Try.prog 28 #[.pointer (some ⟨p, 0, none⟩), .int .i64 z] w fun r w' => r = .tuple #[.int .u32 (cutN (num bs) m (pkN z (8 * bs.length - m)) : Nat), .int .i64 (pkN z (8 * bs.length - m) : Nat)] ∧ Own w0 w' (rdrL p bv bs m L) := by
  refine Call.of (n := 69) (rs := [4, 5]) Try.func28 rfl rfl rfl (by decide) (Nat.le_of_ble_eq_true rfl) ?_
  obtain ⟨n, hn⟩ : ∃ n, n = pkN z (8 * bs.length - m) := ⟨_, rfl⟩
  have hn32 : n ≤ 32 ∧ n ≤ 8 * bs.length - m := by rw [hn]; unfold pkN; omega
  have hmin : Value.int .i64 (min (min (max z 0) 32) ((8 * bs.length - m : Nat) : Int)) = .int .i64 (n : Int) := by
    rw [hn]; unfold pkN; congr 1; omega
  rw [← hn]
  repeat' (first
      | with_reducible refine C.seq ?_
      | with_reducible refine C.region ?_
      | with_reducible refine C.block ?_
      | with_reducible refine J.thn ?_
      | with_reducible refine O.nil ?_
      | with_reducible refine J.blkN ?_
      | with_reducible refine C.skip ?_
      | with_reducible refine C.exit ?_
      | with_reducible refine C.ret ?_
      | with_reducible refine J.thnE ?_
      | with_reducible refine J.thnR ?_
      | with_reducible refine J.blkE ?_
      | with_reducible refine J.blkE' (by decide) ?_
      | with_reducible refine J.blkR ?_
      | with_reducible refine J.bodyR ?_
      | with_reducible refine J.bodyN ?_
      | (show O _ _ _ _ (⟨_, .call { callee := .value (.func 27), args := _, argTypes := _ }, _, _, _, none⟩ :: _) _ _; refine O.call rfl (rdLeft_call H hl hm) ?_; rintro _ w ⟨rfl, H⟩)
      | (show O _ _ _ _ (⟨_, .call { callee := .builtin .min, args := _, argTypes := _ }, _, _, _, none⟩ :: _) _ _; refine O.val (Val.as (Val.min2 rfl rfl) hmin) ?_)
      | (show O _ _ _ _ (⟨_, .move _, _, _, _, none⟩ :: _) _ _; first | refine O.val (Val.moveI rfl) ?_ | refine O.val (Val.moveB rfl) ?_ | refine O.val (Val.moveP rfl) ?_ | refine O.val (Val.moveV (by (conv => lhs; whnf); try rfl)) ?_)
      | (show O _ _ _ _ (⟨_, .assign _, _, _, _, none⟩ :: _) _ _; first | refine O.val (Val.assignI rfl) ?_ | refine O.val (Val.assignB rfl) ?_ | refine O.val (Val.assignP rfl) ?_ | refine O.val (Val.assignV (by (conv => lhs; whnf); try rfl)) ?_)
      | (show O _ _ _ _ (⟨_, .binOp .lss _ _ _ _, _, _, _, none⟩ :: _) _ _; first | refine O.val (Val.lss rfl rfl) ?_)
      | (show O _ _ _ _ (⟨_, .binOp .leq _ _ _ _, _, _, _, none⟩ :: _) _ _; first | refine O.val (Val.leq rfl rfl) ?_)
      | (show O _ _ _ _ (⟨_, .binOp .add _ _ _ _, _, _, _, none⟩ :: _) _ _; first | refine O.val (Val.addI rfl rfl (by first | omega | assumption)) ?_ | refine O.val (Val.addU rfl rfl rfl) ?_ | refine O.val (Val.addS rfl rfl (by first | omega | assumption)) ?_)
      | (show O _ _ _ _ (⟨_, .binOp .sub _ _ _ _, _, _, _, none⟩ :: _) _ _; first | refine O.val (Val.subI rfl rfl (by first | omega | assumption)) ?_ | refine O.val (Val.subU rfl rfl (by first | assumption | decide | ((repeat (first | assumption | decide | exact Fits.modU rfl | refine Fits.and ?_ | refine Fits.or ?_ ?_ | refine Fits.xor ?_ ?_ | refine Fits.shr ?_ | exact Fits.u8 (by first | omega | assumption) | exact Fits.u32 (by first | omega | assumption) | exact Fits.u64 (by first | omega | assumption) | exact Fits.i64 (by first | omega | assumption))); first | done | fail)) (by first | omega | assumption)) ?_)
      | (show O _ _ _ _ (⟨_, .binOp .mul _ _ _ _, _, _, _, none⟩ :: _) _ _; first | refine O.val (Val.mulI rfl rfl (by first | omega | assumption)) ?_ | refine O.val (Val.mulU rfl rfl rfl) ?_)
      | (show O _ _ _ _ (⟨_, .binOp .quo _ _ _ _, _, _, _, none⟩ :: _) _ _; first | refine O.val (Val.quoN rfl rfl (by first | omega | assumption) (by first | omega | assumption)) ?_ | refine O.val (Val.quoI rfl rfl (by first | omega | assumption) (by first | omega | assumption)) ?_)
      | (show O _ _ _ _ (⟨_, .binOp .rem _ _ _ _, _, _, _, none⟩ :: _) _ _; first | refine O.val (Val.remN rfl rfl (by first | omega | assumption)) ?_ | refine O.val (Val.remI rfl rfl (by first | omega | assumption) (by first | omega | assumption)) ?_)
      | (show O _ _ _ _ (⟨_, .binOp .and _ _ _ _, _, _, _, none⟩ :: _) _ _; first | refine O.val (Val.andN rfl rfl (by first | assumption | decide | ((repeat (first | assumption | decide | exact Fits.modU rfl | refine Fits.and ?_ | refine Fits.or ?_ ?_ | refine Fits.xor ?_ ?_ | refine Fits.shr ?_ | exact Fits.u8 (by first | omega | assumption) | exact Fits.u32 (by first | omega | assumption) | exact Fits.u64 (by first | omega | assumption) | exact Fits.i64 (by first | omega | assumption))); first | done | fail)) (by first | assumption | decide | ((repeat (first | assumption | decide | exact Fits.modU rfl | refine Fits.and ?_ | refine Fits.or ?_ ?_ | refine Fits.xor ?_ ?_ | refine Fits.shr ?_ | exact Fits.u8 (by first | omega | assumption) | exact Fits.u32 (by first | omega | assumption) | exact Fits.u64 (by first | omega | assumption) | exact Fits.i64 (by first | omega | assumption))); first | done | fail))) ?_ | refine O.val (Val.andM 16 rfl rfl (by exact rfl) (by decide)) ?_ | refine O.val (Val.andM 8 rfl rfl (by exact rfl) (by decide)) ?_ | refine O.val (Val.andM 3 rfl rfl (by exact rfl) (by decide)) ?_ | refine O.val (Val.andM 6 rfl rfl (by exact rfl) (by decide)) ?_)
      | (show O _ _ _ _ (⟨_, .binOp .or _ _ _ _, _, _, _, none⟩ :: _) _ _; first | refine O.val (Val.orN rfl rfl (by first | assumption | decide | ((repeat (first | assumption | decide | exact Fits.modU rfl | refine Fits.and ?_ | refine Fits.or ?_ ?_ | refine Fits.xor ?_ ?_ | refine Fits.shr ?_ | exact Fits.u8 (by first | omega | assumption) | exact Fits.u32 (by first | omega | assumption) | exact Fits.u64 (by first | omega | assumption) | exact Fits.i64 (by first | omega | assumption))); first | done | fail)) (by first | assumption | decide | ((repeat (first | assumption | decide | exact Fits.modU rfl | refine Fits.and ?_ | refine Fits.or ?_ ?_ | refine Fits.xor ?_ ?_ | refine Fits.shr ?_ | exact Fits.u8 (by first | omega | assumption) | exact Fits.u32 (by first | omega | assumption) | exact Fits.u64 (by first | omega | assumption) | exact Fits.i64 (by first | omega | assumption))); first | done | fail))) ?_)
      | (show O _ _ _ _ (⟨_, .binOp .shr _ _ _ _, _, _, _, none⟩ :: _) _ _; first | refine O.val (Val.shrF rfl rfl (by first | assumption | decide | ((repeat (first | assumption | decide | exact Fits.modU rfl | refine Fits.and ?_ | refine Fits.or ?_ ?_ | refine Fits.xor ?_ ?_ | refine Fits.shr ?_ | exact Fits.u8 (by first | omega | assumption) | exact Fits.u32 (by first | omega | assumption) | exact Fits.u64 (by first | omega | assumption) | exact Fits.i64 (by first | omega | assumption))); first | done | fail))) ?_)
      | (show O _ _ _ _ (⟨_, .binOp .shl _ _ _ _, _, _, _, none⟩ :: _) _ _; first | refine O.val (Val.shlU rfl rfl rfl) ?_)
      | (show O _ _ _ _ (⟨_, .nilCheck _, _, _, _, none⟩ :: _) _ _; first | refine O.val (Val.nilCheck rfl) ?_)
      | (show O _ _ _ _ (⟨_, .fieldAddr _ _ _, _, _, _, none⟩ :: _) _ _; first | refine O.val (Val.fieldAddr rfl rfl) ?_)
      | (show O _ _ _ _ (⟨_, .pick _ _ _, _, _, _, none⟩ :: _) _ _; first | refine O.val (Val.pickT rfl rfl) ?_ | refine O.val (Val.pickF rfl rfl) ?_ | refine O.val (Val.pickDF rfl (by first | omega | assumption)) ?_ | refine O.val (Val.pickDT rfl (by first | omega | assumption)) ?_)
      | (show O _ _ _ _ (⟨_, .call { callee := .builtin .min, args := _, argTypes := _ }, _, _, _, none⟩ :: _) _ _; first | refine O.val (Val.min2 rfl rfl) ?_)
      | (show O _ _ _ _ (⟨_, .call { callee := .builtin .max, args := _, argTypes := _ }, _, _, _, none⟩ :: _) _ _; first | refine O.val (Val.max2 rfl rfl) ?_)
      | (show O _ _ _ _ (⟨_, .convert _ _ _, _, _, _, none⟩ :: _) _ _; first | refine O.val (Val.convN rfl (by first | assumption | decide | ((repeat (first | assumption | decide | exact Fits.modU rfl | refine Fits.and ?_ | refine Fits.or ?_ ?_ | refine Fits.xor ?_ ?_ | refine Fits.shr ?_ | exact Fits.u8 (by first | omega | assumption) | exact Fits.u32 (by first | omega | assumption) | exact Fits.u64 (by first | omega | assumption) | exact Fits.i64 (by first | omega | assumption))); first | done | fail))) ?_ | refine O.val (Val.convU rfl rfl) ?_ | refine O.val (Val.toStr (by (conv => lhs; whnf); try rfl) (by first | exact (H.has).row1 (by (repeat (first | exact List.mem_cons_self | refine List.mem_cons_of_mem _ ?_)); first | done | fail) | exact (H.has).ro (by (repeat (first | exact List.mem_cons_self | refine List.mem_cons_of_mem _ ?_)); first | done | fail))) ?_)
      | (show O _ _ _ _ (⟨_, .load _ _, _, _, _, none⟩ :: _) _ _; first | refine O.val (Val.loadBox rfl (H.has) (by (repeat (first | exact List.mem_cons_self | refine List.mem_cons_of_mem _ ?_)); first | done | fail) rfl) ?_ | refine O.val (Val.loadAtN rfl (by first | exact (H.has).row1 (by (repeat (first | exact List.mem_cons_self | refine List.mem_cons_of_mem _ ?_)); first | done | fail) | exact (H.has).ro (by (repeat (first | exact List.mem_cons_self | refine List.mem_cons_of_mem _ ?_)); first | done | fail)) (by first | omega | assumption)) ?_ | refine O.val (Val.loadAtV rfl (by first | exact (H.has).row1 (by (repeat (first | exact List.mem_cons_self | refine List.mem_cons_of_mem _ ?_)); first | done | fail) | exact (H.has).ro (by (repeat (first | exact List.mem_cons_self | refine List.mem_cons_of_mem _ ?_)); first | done | fail)) (by first | omega | assumption)) ?_ | refine O.val (Val.loadAtI rfl (by first | exact (H.has).row1 (by (repeat (first | exact List.mem_cons_self | refine List.mem_cons_of_mem _ ?_)); first | done | fail) | exact (H.has).ro (by (repeat (first | exact List.mem_cons_self | refine List.mem_cons_of_mem _ ?_)); first | done | fail)) (by first | omega | assumption)) ?_)
      | (show O _ _ _ _ (⟨_, .indexAddr _ _ _, _, _, _, none⟩ :: _) _ _; first | refine O.val (Val.idx1 (by (conv => lhs; whnf); try rfl) rfl (by first | exact (H.has).row1 (by (repeat (first | exact List.mem_cons_self | refine List.mem_cons_of_mem _ ?_)); first | done | fail) | exact (H.has).ro (by (repeat (first | exact List.mem_cons_self | refine List.mem_cons_of_mem _ ?_)); first | done | fail)) (by first | omega | assumption)) ?_ | refine O.val (Val.idx1I (by (conv => lhs; whnf); try rfl) rfl (by first | exact (H.has).row1 (by (repeat (first | exact List.mem_cons_self | refine List.mem_cons_of_mem _ ?_)); first | done | fail) | exact (H.has).ro (by (repeat (first | exact List.mem_cons_self | refine List.mem_cons_of_mem _ ?_)); first | done | fail)) (by first | omega | assumption) (by first | omega | assumption)) ?_)
      | (show O _ _ _ _ (⟨_, .call { callee := .builtin .len, args := _, argTypes := _ }, _, _, _, none⟩ :: _) _ _; first | refine O.val (Val.lenStr rfl) ?_ | refine O.val (Val.len (by (conv => lhs; whnf); try rfl) (by first | exact (H.has).row1 (by (repeat (first | exact List.mem_cons_self | refine List.mem_cons_of_mem _ ?_)); first | done | fail) | exact (H.has).ro (by (repeat (first | exact List.mem_cons_self | refine List.mem_cons_of_mem _ ?_)); first | done | fail))) ?_)
      | (show O _ _ _ _ (⟨_, _, _, _, _, some _⟩ :: _) _ _; first | refine O.gyes rfl rfl rfl ?_ | refine O.gno rfl rfl rfl ?_ | refine O.gF rfl rfl (by first | omega | assumption | with_reducible exact nself | with_reducible exact rfl) rfl ?_ | refine O.gT rfl rfl (by first | omega | assumption | with_reducible exact nself | with_reducible exact rfl) rfl ?_ | refine O.sF rfl rfl (by first | omega | assumption | with_reducible exact nself | with_reducible exact rfl) rfl ?_ | refine O.sT rfl rfl (by first | omega | assumption | with_reducible exact nself | with_reducible exact rfl) rfl ?_)
      | (show O _ _ _ _ (⟨_, .convert _ _ _, _, _, _, none⟩ :: _) _ _; first | (refine O.convSame (by (conv => lhs; whnf); try rfl) H (by (repeat (first | exact Pull.here | apply Pull.there)); first | done | fail) (by exact Nat.le_of_ble_eq_true rfl) ?_; intro w H))
      | (show C _ _ (.cond _ _ _) _ _ _; first | with_reducible refine C.condT rfl rfl ?_ | with_reducible refine C.condF rfl rfl ?_ | refine C.ifT rfl (by first | omega | assumption | with_reducible exact nself | with_reducible exact rfl) ?_ | refine C.ifF rfl (by first | omega | assumption | with_reducible exact nself | with_reducible exact rfl) ?_ | refine C.ifd rfl (fun hif => ?_) (fun hif => ?_))
      )
  refine C.loopS (fun i : Nat => [(0, .pointer (some ⟨p, 0, none⟩)), (6, .int .i64 n), (7, .int .u64 (num ((bs.drop (m / 8)).take i) : Nat)), (8, .int .i64 ((m / 8 : Nat) : Int)), (9, .int .i64 i)]) (fun c i w => Own w0 w (rdrL p bv bs m L) ∧ i ≤ 5 ∧ c = 5 - i) 5 0 ⟨H, by omega, by omega⟩ ⟨rfl, rfl, rfl, rfl, rfl, trivial⟩ ?_
  rintro c i e w ⟨H, hi, rfl⟩
  have hbi := hb.at (m / 8 + i)
  have hfi := num_fits hb (q := m / 8) hi
  have hf2 : Fits .u64 ((1 <<< n) % 2 ^ IntKind.u64.bits - 1) := Nat.lt_of_le_of_lt (Nat.sub_le _ _) (Fits.modU rfl)
  have h1n : 1 ≤ (1 <<< n) % 2 ^ IntKind.u64.bits := by
    have h1 : 1 <<< n = 2 ^ n := by rw [Nat.shiftLeft_eq, Nat.one_mul]
    have h2 : 2 ^ n ≤ 2 ^ 32 := Nat.pow_le_pow_right (by decide) hn32.1
    have h3 : (2 : Nat) ^ 32 < 2 ^ IntKind.u64.bits := by decide
    have h4 : 0 < 2 ^ n := Nat.pow_pos (by decide)
    rw [h1, Nat.mod_eq_of_lt (by omega)]; exact h4
  have e9 : m % 8 % 2 ^ IntKind.u64.bits = m % 8 := Nat.mod_eq_of_lt (by show m % 8 < 2 ^ 64; omega)
  by_cases h4 : i ≤ 4
  · repeat' (first
      | with_reducible refine C.seq ?_
      | with_reducible refine C.region ?_
      | with_reducible refine C.block ?_
      | with_reducible refine J.thn ?_
      | with_reducible refine O.nil ?_
      | with_reducible refine J.blkN ?_
      | with_reducible refine C.skip ?_
      | with_reducible refine C.exit ?_
      | with_reducible refine C.ret ?_
      | with_reducible refine J.thnE ?_
      | with_reducible refine J.thnR ?_
      | with_reducible refine J.blkE ?_
      | with_reducible refine J.blkE' (by decide) ?_
      | with_reducible refine J.blkR ?_
      | with_reducible refine J.bodyR ?_
      | with_reducible refine J.bodyN ?_
      | (show O _ _ _ _ (⟨_, .move _, _, _, _, none⟩ :: _) _ _; first | refine O.val (Val.moveI rfl) ?_ | refine O.val (Val.moveB rfl) ?_ | refine O.val (Val.moveP rfl) ?_ | refine O.val (Val.moveV (by (conv => lhs; whnf); try rfl)) ?_)
      | (show O _ _ _ _ (⟨_, .assign _, _, _, _, none⟩ :: _) _ _; first | refine O.val (Val.assignI rfl) ?_ | refine O.val (Val.assignB rfl) ?_ | refine O.val (Val.assignP rfl) ?_ | refine O.val (Val.assignV (by (conv => lhs; whnf); try rfl)) ?_)
      | (show O _ _ _ _ (⟨_, .binOp .lss _ _ _ _, _, _, _, none⟩ :: _) _ _; first | refine O.val (Val.lss rfl rfl) ?_)
      | (show O _ _ _ _ (⟨_, .binOp .leq _ _ _ _, _, _, _, none⟩ :: _) _ _; first | refine O.val (Val.leq rfl rfl) ?_)
      | (show O _ _ _ _ (⟨_, .binOp .add _ _ _ _, _, _, _, none⟩ :: _) _ _; first | refine O.val (Val.addI rfl rfl (by first | omega | assumption)) ?_ | refine O.val (Val.addU rfl rfl rfl) ?_ | refine O.val (Val.addS rfl rfl (by first | omega | assumption)) ?_)
      | (show O _ _ _ _ (⟨_, .binOp .sub _ _ _ _, _, _, _, none⟩ :: _) _ _; first | refine O.val (Val.subI rfl rfl (by first | omega | assumption)) ?_ | refine O.val (Val.subU rfl rfl (by first | assumption | decide | ((repeat (first | assumption | decide | exact Fits.modU rfl | refine Fits.and ?_ | refine Fits.or ?_ ?_ | refine Fits.xor ?_ ?_ | refine Fits.shr ?_ | exact Fits.u8 (by first | omega | assumption) | exact Fits.u32 (by first | omega | assumption) | exact Fits.u64 (by first | omega | assumption) | exact Fits.i64 (by first | omega | assumption))); first | done | fail)) (by first | omega | assumption)) ?_)
      | (show O _ _ _ _ (⟨_, .binOp .mul _ _ _ _, _, _, _, none⟩ :: _) _ _; first | refine O.val (Val.mulI rfl rfl (by first | omega | assumption)) ?_ | refine O.val (Val.mulU rfl rfl rfl) ?_)
      | (show O _ _ _ _ (⟨_, .binOp .quo _ _ _ _, _, _, _, none⟩ :: _) _ _; first | refine O.val (Val.quoN rfl rfl (by first | omega | assumption) (by first | omega | assumption)) ?_ | refine O.val (Val.quoI rfl rfl (by first | omega | assumption) (by first | omega | assumption)) ?_)
      | (show O _ _ _ _ (⟨_, .binOp .rem _ _ _ _, _, _, _, none⟩ :: _) _ _; first | refine O.val (Val.remN rfl rfl (by first | omega | assumption)) ?_ | refine O.val (Val.remI rfl rfl (by first | omega | assumption) (by first | omega | assumption)) ?_)
      | (show O _ _ _ _ (⟨_, .binOp .and _ _ _ _, _, _, _, none⟩ :: _) _ _; first | refine O.val (Val.andN rfl rfl (by first | assumption | decide | ((repeat (first | assumption | decide | exact Fits.modU rfl | refine Fits.and ?_ | refine Fits.or ?_ ?_ | refine Fits.xor ?_ ?_ | refine Fits.shr ?_ | exact Fits.u8 (by first | omega | assumption) | exact Fits.u32 (by first | omega | assumption) | exact Fits.u64 (by first | omega | assumption) | exact Fits.i64 (by first | omega | assumption))); first | done | fail)) (by first | assumption | decide | ((repeat (first | assumption | decide | exact Fits.modU rfl | refine Fits.and ?_ | refine Fits.or ?_ ?_ | refine Fits.xor ?_ ?_ | refine Fits.shr ?_ | exact Fits.u8 (by first | omega | assumption) | exact Fits.u32 (by first | omega | assumption) | exact Fits.u64 (by first | omega | assumption) | exact Fits.i64 (by first | omega | assumption))); first | done | fail))) ?_ | refine O.val (Val.andM 16 rfl rfl (by exact rfl) (by decide)) ?_ | refine O.val (Val.andM 8 rfl rfl (by exact rfl) (by decide)) ?_ | refine O.val (Val.andM 3 rfl rfl (by exact rfl) (by decide)) ?_ | refine O.val (Val.andM 6 rfl rfl (by exact rfl) (by decide)) ?_)
      | (show O _ _ _ _ (⟨_, .binOp .or _ _ _ _, _, _, _, none⟩ :: _) _ _; first | refine O.val (Val.orN rfl rfl (by first | assumption | decide | ((repeat (first | assumption | decide | exact Fits.modU rfl | refine Fits.and ?_ | refine Fits.or ?_ ?_ | refine Fits.xor ?_ ?_ | refine Fits.shr ?_ | exact Fits.u8 (by first | omega | assumption) | exact Fits.u32 (by first | omega | assumption) | exact Fits.u64 (by first | omega | assumption) | exact Fits.i64 (by first | omega | assumption))); first | done | fail)) (by first | assumption | decide | ((repeat (first | assumption | decide | exact Fits.modU rfl | refine Fits.and ?_ | refine Fits.or ?_ ?_ | refine Fits.xor ?_ ?_ | refine Fits.shr ?_ | exact Fits.u8 (by first | omega | assumption) | exact Fits.u32 (by first | omega | assumption) | exact Fits.u64 (by first | omega | assumption) | exact Fits.i64 (by first | omega | assumption))); first | done | fail))) ?_)
      | (show O _ _ _ _ (⟨_, .binOp .shr _ _ _ _, _, _, _, none⟩ :: _) _ _; first | refine O.val (Val.shrF rfl rfl (by first | assumption | decide | ((repeat (first | assumption | decide | exact Fits.modU rfl | refine Fits.and ?_ | refine Fits.or ?_ ?_ | refine Fits.xor ?_ ?_ | refine Fits.shr ?_ | exact Fits.u8 (by first | omega | assumption) | exact Fits.u32 (by first | omega | assumption) | exact Fits.u64 (by first | omega | assumption) | exact Fits.i64 (by first | omega | assumption))); first | done | fail))) ?_)
      | (show O _ _ _ _ (⟨_, .binOp .shl _ _ _ _, _, _, _, none⟩ :: _) _ _; first | refine O.val (Val.shlU rfl rfl rfl) ?_)
      | (show O _ _ _ _ (⟨_, .nilCheck _, _, _, _, none⟩ :: _) _ _; first | refine O.val (Val.nilCheck rfl) ?_)
      | (show O _ _ _ _ (⟨_, .fieldAddr _ _ _, _, _, _, none⟩ :: _) _ _; first | refine O.val (Val.fieldAddr rfl rfl) ?_)
      | (show O _ _ _ _ (⟨_, .pick _ _ _, _, _, _, none⟩ :: _) _ _; first | refine O.val (Val.pickT rfl rfl) ?_ | refine O.val (Val.pickF rfl rfl) ?_ | refine O.val (Val.pickDF rfl (by first | omega | assumption)) ?_ | refine O.val (Val.pickDT rfl (by first | omega | assumption)) ?_)
      | (show O _ _ _ _ (⟨_, .call { callee := .builtin .min, args := _, argTypes := _ }, _, _, _, none⟩ :: _) _ _; first | refine O.val (Val.min2 rfl rfl) ?_)
      | (show O _ _ _ _ (⟨_, .call { callee := .builtin .max, args := _, argTypes := _ }, _, _, _, none⟩ :: _) _ _; first | refine O.val (Val.max2 rfl rfl) ?_)
      | (show O _ _ _ _ (⟨_, .convert _ _ _, _, _, _, none⟩ :: _) _ _; first | refine O.val (Val.convN rfl (by first | assumption | decide | ((repeat (first | assumption | decide | exact Fits.modU rfl | refine Fits.and ?_ | refine Fits.or ?_ ?_ | refine Fits.xor ?_ ?_ | refine Fits.shr ?_ | exact Fits.u8 (by first | omega | assumption) | exact Fits.u32 (by first | omega | assumption) | exact Fits.u64 (by first | omega | assumption) | exact Fits.i64 (by first | omega | assumption))); first | done | fail))) ?_ | refine O.val (Val.convU rfl rfl) ?_ | refine O.val (Val.toStr (by (conv => lhs; whnf); try rfl) (by first | exact (H.has).row1 (by (repeat (first | exact List.mem_cons_self | refine List.mem_cons_of_mem _ ?_)); first | done | fail) | exact (H.has).ro (by (repeat (first | exact List.mem_cons_self | refine List.mem_cons_of_mem _ ?_)); first | done | fail))) ?_)
      | (show O _ _ _ _ (⟨_, .load _ _, _, _, _, none⟩ :: _) _ _; first | refine O.val (Val.loadBox rfl (H.has) (by (repeat (first | exact List.mem_cons_self | refine List.mem_cons_of_mem _ ?_)); first | done | fail) rfl) ?_ | refine O.val (Val.loadAtN rfl (by first | exact (H.has).row1 (by (repeat (first | exact List.mem_cons_self | refine List.mem_cons_of_mem _ ?_)); first | done | fail) | exact (H.has).ro (by (repeat (first | exact List.mem_cons_self | refine List.mem_cons_of_mem _ ?_)); first | done | fail)) (by first | omega | assumption)) ?_ | refine O.val (Val.loadAtV rfl (by first | exact (H.has).row1 (by (repeat (first | exact List.mem_cons_self | refine List.mem_cons_of_mem _ ?_)); first | done | fail) | exact (H.has).ro (by (repeat (first | exact List.mem_cons_self | refine List.mem_cons_of_mem _ ?_)); first | done | fail)) (by first | omega | assumption)) ?_ | refine O.val (Val.loadAtI rfl (by first | exact (H.has).row1 (by (repeat (first | exact List.mem_cons_self | refine List.mem_cons_of_mem _ ?_)); first | done | fail) | exact (H.has).ro (by (repeat (first | exact List.mem_cons_self | refine List.mem_cons_of_mem _ ?_)); first | done | fail)) (by first | omega | assumption)) ?_)
      | (show O _ _ _ _ (⟨_, .indexAddr _ _ _, _, _, _, none⟩ :: _) _ _; first | refine O.val (Val.idx1 (by (conv => lhs; whnf); try rfl) rfl (by first | exact (H.has).row1 (by (repeat (first | exact List.mem_cons_self | refine List.mem_cons_of_mem _ ?_)); first | done | fail) | exact (H.has).ro (by (repeat (first | exact List.mem_cons_self | refine List.mem_cons_of_mem _ ?_)); first | done | fail)) (by first | omega | assumption)) ?_ | refine O.val (Val.idx1I (by (conv => lhs; whnf); try rfl) rfl (by first | exact (H.has).row1 (by (repeat (first | exact List.mem_cons_self | refine List.mem_cons_of_mem _ ?_)); first | done | fail) | exact (H.has).ro (by (repeat (first | exact List.mem_cons_self | refine List.mem_cons_of_mem _ ?_)); first | done | fail)) (by first | omega | assumption) (by first | omega | assumption)) ?_)
      | (show O _ _ _ _ (⟨_, .call { callee := .builtin .len, args := _, argTypes := _ }, _, _, _, none⟩ :: _) _ _; first | refine O.val (Val.lenStr rfl) ?_ | refine O.val (Val.len (by (conv => lhs; whnf); try rfl) (by first | exact (H.has).row1 (by (repeat (first | exact List.mem_cons_self | refine List.mem_cons_of_mem _ ?_)); first | done | fail) | exact (H.has).ro (by (repeat (first | exact List.mem_cons_self | refine List.mem_cons_of_mem _ ?_)); first | done | fail))) ?_)
      | (show O _ _ _ _ (⟨_, _, _, _, _, some _⟩ :: _) _ _; first | refine O.gyes rfl rfl rfl ?_ | refine O.gno rfl rfl rfl ?_ | refine O.gF rfl rfl (by first | omega | assumption | with_reducible exact nself | with_reducible exact rfl) rfl ?_ | refine O.gT rfl rfl (by first | omega | assumption | with_reducible exact nself | with_reducible exact rfl) rfl ?_ | refine O.sF rfl rfl (by first | omega | assumption | with_reducible exact nself | with_reducible exact rfl) rfl ?_ | refine O.sT rfl rfl (by first | omega | assumption | with_reducible exact nself | with_reducible exact rfl) rfl ?_)
      | (show O _ _ _ _ (⟨_, .convert _ _ _, _, _, _, none⟩ :: _) _ _; first | (refine O.convSame (by (conv => lhs; whnf); try rfl) H (by (repeat (first | exact Pull.here | apply Pull.there)); first | done | fail) (by exact Nat.le_of_ble_eq_true rfl) ?_; intro w H))
      | (show C _ _ (.cond _ _ _) _ _ _; first | with_reducible refine C.condT rfl rfl ?_ | with_reducible refine C.condF rfl rfl ?_ | refine C.ifT rfl (by first | omega | assumption | with_reducible exact nself | with_reducible exact rfl) ?_ | refine C.ifF rfl (by first | omega | assumption | with_reducible exact nself | with_reducible exact rfl) ?_ | refine C.ifd rfl (fun hif => ?_) (fun hif => ?_))
      )
    · have hst := step_num hb h4 (q := m / 8) (by omega)
      have e8 : 8 * i % 2 ^ IntKind.u64.bits = 8 * i := Nat.mod_eq_of_lt (by show 8 * i < 2 ^ 64; omega)
      rw [← e8] at hst
      exact ⟨5 - (i + 1), i + 1, by omega, ⟨H, by omega, rfl⟩, ⟨rfl, rfl, by rw [← hst]; rfl, rfl, rfl, trivial⟩⟩
    · have hw := cutN_win hb (m := m) (c := i) (n := n) (by omega)
      rw [← hw, ← mask_num _ hn32.1, ← e9]
      exact ⟨rfl, H⟩
  · repeat' (first
      | with_reducible refine C.seq ?_
      | with_reducible refine C.region ?_
      | with_reducible refine C.block ?_
      | with_reducible refine J.thn ?_
      | with_reducible refine O.nil ?_
      | with_reducible refine J.blkN ?_
      | with_reducible refine C.skip ?_
      | with_reducible refine C.exit ?_
      | with_reducible refine C.ret ?_
      | with_reducible refine J.thnE ?_
      | with_reducible refine J.thnR ?_
      | with_reducible refine J.blkE ?_
      | with_reducible refine J.blkE' (by decide) ?_
      | with_reducible refine J.blkR ?_
      | with_reducible refine J.bodyR ?_
      | with_reducible refine J.bodyN ?_
      | (show O _ _ _ _ (⟨_, .move _, _, _, _, none⟩ :: _) _ _; first | refine O.val (Val.moveI rfl) ?_ | refine O.val (Val.moveB rfl) ?_ | refine O.val (Val.moveP rfl) ?_ | refine O.val (Val.moveV (by (conv => lhs; whnf); try rfl)) ?_)
      | (show O _ _ _ _ (⟨_, .assign _, _, _, _, none⟩ :: _) _ _; first | refine O.val (Val.assignI rfl) ?_ | refine O.val (Val.assignB rfl) ?_ | refine O.val (Val.assignP rfl) ?_ | refine O.val (Val.assignV (by (conv => lhs; whnf); try rfl)) ?_)
      | (show O _ _ _ _ (⟨_, .binOp .lss _ _ _ _, _, _, _, none⟩ :: _) _ _; first | refine O.val (Val.lss rfl rfl) ?_)
      | (show O _ _ _ _ (⟨_, .binOp .leq _ _ _ _, _, _, _, none⟩ :: _) _ _; first | refine O.val (Val.leq rfl rfl) ?_)
      | (show O _ _ _ _ (⟨_, .binOp .add _ _ _ _, _, _, _, none⟩ :: _) _ _; first | refine O.val (Val.addI rfl rfl (by first | omega | assumption)) ?_ | refine O.val (Val.addU rfl rfl rfl) ?_ | refine O.val (Val.addS rfl rfl (by first | omega | assumption)) ?_)
      | (show O _ _ _ _ (⟨_, .binOp .sub _ _ _ _, _, _, _, none⟩ :: _) _ _; first | refine O.val (Val.subI rfl rfl (by first | omega | assumption)) ?_ | refine O.val (Val.subU rfl rfl (by first | assumption | decide | ((repeat (first | assumption | decide | exact Fits.modU rfl | refine Fits.and ?_ | refine Fits.or ?_ ?_ | refine Fits.xor ?_ ?_ | refine Fits.shr ?_ | exact Fits.u8 (by first | omega | assumption) | exact Fits.u32 (by first | omega | assumption) | exact Fits.u64 (by first | omega | assumption) | exact Fits.i64 (by first | omega | assumption))); first | done | fail)) (by first | omega | assumption)) ?_)
      | (show O _ _ _ _ (⟨_, .binOp .mul _ _ _ _, _, _, _, none⟩ :: _) _ _; first | refine O.val (Val.mulI rfl rfl (by first | omega | assumption)) ?_ | refine O.val (Val.mulU rfl rfl rfl) ?_)
      | (show O _ _ _ _ (⟨_, .binOp .quo _ _ _ _, _, _, _, none⟩ :: _) _ _; first | refine O.val (Val.quoN rfl rfl (by first | omega | assumption) (by first | omega | assumption)) ?_ | refine O.val (Val.quoI rfl rfl (by first | omega | assumption) (by first | omega | assumption)) ?_)
      | (show O _ _ _ _ (⟨_, .binOp .rem _ _ _ _, _, _, _, none⟩ :: _) _ _; first | refine O.val (Val.remN rfl rfl (by first | omega | assumption)) ?_ | refine O.val (Val.remI rfl rfl (by first | omega | assumption) (by first | omega | assumption)) ?_)
      | (show O _ _ _ _ (⟨_, .binOp .and _ _ _ _, _, _, _, none⟩ :: _) _ _; first | refine O.val (Val.andN rfl rfl (by first | assumption | decide | ((repeat (first | assumption | decide | exact Fits.modU rfl | refine Fits.and ?_ | refine Fits.or ?_ ?_ | refine Fits.xor ?_ ?_ | refine Fits.shr ?_ | exact Fits.u8 (by first | omega | assumption) | exact Fits.u32 (by first | omega | assumption) | exact Fits.u64 (by first | omega | assumption) | exact Fits.i64 (by first | omega | assumption))); first | done | fail)) (by first | assumption | decide | ((repeat (first | assumption | decide | exact Fits.modU rfl | refine Fits.and ?_ | refine Fits.or ?_ ?_ | refine Fits.xor ?_ ?_ | refine Fits.shr ?_ | exact Fits.u8 (by first | omega | assumption) | exact Fits.u32 (by first | omega | assumption) | exact Fits.u64 (by first | omega | assumption) | exact Fits.i64 (by first | omega | assumption))); first | done | fail))) ?_ | refine O.val (Val.andM 16 rfl rfl (by exact rfl) (by decide)) ?_ | refine O.val (Val.andM 8 rfl rfl (by exact rfl) (by decide)) ?_ | refine O.val (Val.andM 3 rfl rfl (by exact rfl) (by decide)) ?_ | refine O.val (Val.andM 6 rfl rfl (by exact rfl) (by decide)) ?_)
      | (show O _ _ _ _ (⟨_, .binOp .or _ _ _ _, _, _, _, none⟩ :: _) _ _; first | refine O.val (Val.orN rfl rfl (by first | assumption | decide | ((repeat (first | assumption | decide | exact Fits.modU rfl | refine Fits.and ?_ | refine Fits.or ?_ ?_ | refine Fits.xor ?_ ?_ | refine Fits.shr ?_ | exact Fits.u8 (by first | omega | assumption) | exact Fits.u32 (by first | omega | assumption) | exact Fits.u64 (by first | omega | assumption) | exact Fits.i64 (by first | omega | assumption))); first | done | fail)) (by first | assumption | decide | ((repeat (first | assumption | decide | exact Fits.modU rfl | refine Fits.and ?_ | refine Fits.or ?_ ?_ | refine Fits.xor ?_ ?_ | refine Fits.shr ?_ | exact Fits.u8 (by first | omega | assumption) | exact Fits.u32 (by first | omega | assumption) | exact Fits.u64 (by first | omega | assumption) | exact Fits.i64 (by first | omega | assumption))); first | done | fail))) ?_)
      | (show O _ _ _ _ (⟨_, .binOp .shr _ _ _ _, _, _, _, none⟩ :: _) _ _; first | refine O.val (Val.shrF rfl rfl (by first | assumption | decide | ((repeat (first | assumption | decide | exact Fits.modU rfl | refine Fits.and ?_ | refine Fits.or ?_ ?_ | refine Fits.xor ?_ ?_ | refine Fits.shr ?_ | exact Fits.u8 (by first | omega | assumption) | exact Fits.u32 (by first | omega | assumption) | exact Fits.u64 (by first | omega | assumption) | exact Fits.i64 (by first | omega | assumption))); first | done | fail))) ?_)
      | (show O _ _ _ _ (⟨_, .binOp .shl _ _ _ _, _, _, _, none⟩ :: _) _ _; first | refine O.val (Val.shlU rfl rfl rfl) ?_)
      | (show O _ _ _ _ (⟨_, .nilCheck _, _, _, _, none⟩ :: _) _ _; first | refine O.val (Val.nilCheck rfl) ?_)
      | (show O _ _ _ _ (⟨_, .fieldAddr _ _ _, _, _, _, none⟩ :: _) _ _; first | refine O.val (Val.fieldAddr rfl rfl) ?_)
      | (show O _ _ _ _ (⟨_, .pick _ _ _, _, _, _, none⟩ :: _) _ _; first | refine O.val (Val.pickT rfl rfl) ?_ | refine O.val (Val.pickF rfl rfl) ?_ | refine O.val (Val.pickDF rfl (by first | omega | assumption)) ?_ | refine O.val (Val.pickDT rfl (by first | omega | assumption)) ?_)
      | (show O _ _ _ _ (⟨_, .call { callee := .builtin .min, args := _, argTypes := _ }, _, _, _, none⟩ :: _) _ _; first | refine O.val (Val.min2 rfl rfl) ?_)
      | (show O _ _ _ _ (⟨_, .call { callee := .builtin .max, args := _, argTypes := _ }, _, _, _, none⟩ :: _) _ _; first | refine O.val (Val.max2 rfl rfl) ?_)
      | (show O _ _ _ _ (⟨_, .convert _ _ _, _, _, _, none⟩ :: _) _ _; first | refine O.val (Val.convN rfl (by first | assumption | decide | ((repeat (first | assumption | decide | exact Fits.modU rfl | refine Fits.and ?_ | refine Fits.or ?_ ?_ | refine Fits.xor ?_ ?_ | refine Fits.shr ?_ | exact Fits.u8 (by first | omega | assumption) | exact Fits.u32 (by first | omega | assumption) | exact Fits.u64 (by first | omega | assumption) | exact Fits.i64 (by first | omega | assumption))); first | done | fail))) ?_ | refine O.val (Val.convU rfl rfl) ?_ | refine O.val (Val.toStr (by (conv => lhs; whnf); try rfl) (by first | exact (H.has).row1 (by (repeat (first | exact List.mem_cons_self | refine List.mem_cons_of_mem _ ?_)); first | done | fail) | exact (H.has).ro (by (repeat (first | exact List.mem_cons_self | refine List.mem_cons_of_mem _ ?_)); first | done | fail))) ?_)
      | (show O _ _ _ _ (⟨_, .load _ _, _, _, _, none⟩ :: _) _ _; first | refine O.val (Val.loadBox rfl (H.has) (by (repeat (first | exact List.mem_cons_self | refine List.mem_cons_of_mem _ ?_)); first | done | fail) rfl) ?_ | refine O.val (Val.loadAtN rfl (by first | exact (H.has).row1 (by (repeat (first | exact List.mem_cons_self | refine List.mem_cons_of_mem _ ?_)); first | done | fail) | exact (H.has).ro (by (repeat (first | exact List.mem_cons_self | refine List.mem_cons_of_mem _ ?_)); first | done | fail)) (by first | omega | assumption)) ?_ | refine O.val (Val.loadAtV rfl (by first | exact (H.has).row1 (by (repeat (first | exact List.mem_cons_self | refine List.mem_cons_of_mem _ ?_)); first | done | fail) | exact (H.has).ro (by (repeat (first | exact List.mem_cons_self | refine List.mem_cons_of_mem _ ?_)); first | done | fail)) (by first | omega | assumption)) ?_ | refine O.val (Val.loadAtI rfl (by first | exact (H.has).row1 (by (repeat (first | exact List.mem_cons_self | refine List.mem_cons_of_mem _ ?_)); first | done | fail) | exact (H.has).ro (by (repeat (first | exact List.mem_cons_self | refine List.mem_cons_of_mem _ ?_)); first | done | fail)) (by first | omega | assumption)) ?_)
      | (show O _ _ _ _ (⟨_, .indexAddr _ _ _, _, _, _, none⟩ :: _) _ _; first | refine O.val (Val.idx1 (by (conv => lhs; whnf); try rfl) rfl (by first | exact (H.has).row1 (by (repeat (first | exact List.mem_cons_self | refine List.mem_cons_of_mem _ ?_)); first | done | fail) | exact (H.has).ro (by (repeat (first | exact List.mem_cons_self | refine List.mem_cons_of_mem _ ?_)); first | done | fail)) (by first | omega | assumption)) ?_ | refine O.val (Val.idx1I (by (conv => lhs; whnf); try rfl) rfl (by first | exact (H.has).row1 (by (repeat (first | exact List.mem_cons_self | refine List.mem_cons_of_mem _ ?_)); first | done | fail) | exact (H.has).ro (by (repeat (first | exact List.mem_cons_self | refine List.mem_cons_of_mem _ ?_)); first | done | fail)) (by first | omega | assumption) (by first | omega | assumption)) ?_)
      | (show O _ _ _ _ (⟨_, .call { callee := .builtin .len, args := _, argTypes := _ }, _, _, _, none⟩ :: _) _ _; first | refine O.val (Val.lenStr rfl) ?_ | refine O.val (Val.len (by (conv => lhs; whnf); try rfl) (by first | exact (H.has).row1 (by (repeat (first | exact List.mem_cons_self | refine List.mem_cons_of_mem _ ?_)); first | done | fail) | exact (H.has).ro (by (repeat (first | exact List.mem_cons_self | refine List.mem_cons_of_mem _ ?_)); first | done | fail))) ?_)
      | (show O _ _ _ _ (⟨_, _, _, _, _, some _⟩ :: _) _ _; first | refine O.gyes rfl rfl rfl ?_ | refine O.gno rfl rfl rfl ?_ | refine O.gF rfl rfl (by first | omega | assumption | with_reducible exact nself | with_reducible exact rfl) rfl ?_ | refine O.gT rfl rfl (by first | omega | assumption | with_reducible exact nself | with_reducible exact rfl) rfl ?_ | refine O.sF rfl rfl (by first | omega | assumption | with_reducible exact nself | with_reducible exact rfl) rfl ?_ | refine O.sT rfl rfl (by first | omega | assumption | with_reducible exact nself | with_reducible exact rfl) rfl ?_)
      | (show O _ _ _ _ (⟨_, .convert _ _ _, _, _, _, none⟩ :: _) _ _; first | (refine O.convSame (by (conv => lhs; whnf); try rfl) H (by (repeat (first | exact Pull.here | apply Pull.there)); first | done | fail) (by exact Nat.le_of_ble_eq_true rfl) ?_; intro w H))
      | (show C _ _ (.cond _ _ _) _ _ _; first | with_reducible refine C.condT rfl rfl ?_ | with_reducible refine C.condF rfl rfl ?_ | refine C.ifT rfl (by first | omega | assumption | with_reducible exact nself | with_reducible exact rfl) ?_ | refine C.ifF rfl (by first | omega | assumption | with_reducible exact nself | with_reducible exact rfl) ?_ | refine C.ifd rfl (fun hif => ?_) (fun hif => ?_))
      )
    have hw := cutN_win hb (m := m) (c := i) (n := n) (by omega)
    rw [← hw, ← mask_num _ hn32.1, ← e9]
    exact ⟨rfl, H⟩
/-- Bits are taken: there are enough. -/
theorem take_yes {w0 w : World} {L : List Res} {p : Nat} {bv : Value} {bs : List Nat} {m n : Nat} (H : Own w0 w (rdrL p bv bs m L)) (hb : Bytes bs) (hl : bs.length ≤ 1000000) (hm : m + n ≤ 8 * bs.length) (hn : n ≤ 32) :
    Call Try.prog 26 #[.pointer (some ⟨p, 0, none⟩), .int .i64 (n : Int)] w fun r w' => r = .tuple #[.int .u32 (cutN (num bs) m n : Nat), .bool true] ∧ Own w0 w' (rdrL p bv bs (m + n) L) := by
  refine Call.of (n := 34) (rs := [4, 5]) Try.func26 rfl rfl rfl (by decide) (Nat.le_of_ble_eq_true rfl) ?_
  have hp : pkN (n : Int) (8 * bs.length - m) = n := by unfold pkN; omega
  repeat' (first
      | with_reducible refine C.seq ?_
      | with_reducible refine C.region ?_
      | with_reducible refine C.block ?_
      | with_reducible refine J.thn ?_
      | with_reducible refine O.nil ?_
      | with_reducible refine J.blkN ?_
      | with_reducible refine C.skip ?_
      | with_reducible refine C.exit ?_
      | with_reducible refine C.ret ?_
      | with_reducible refine J.thnE ?_
      | with_reducible refine J.thnR ?_
      | with_reducible refine J.blkE ?_
      | with_reducible refine J.blkE' (by decide) ?_
      | with_reducible refine J.blkR ?_
      | with_reducible refine J.bodyR ?_
      | with_reducible refine J.bodyN ?_
      | (show O _ _ _ _ (⟨_, .call { callee := .value (.func 28), args := _, argTypes := _ }, _, _, _, none⟩ :: _) _ _; refine O.call rfl (peek_call H hb hl (by omega)) ?_; rintro _ w ⟨rfl, H⟩; rw [hp])
      | (show O _ _ _ _ (⟨_, .move _, _, _, _, none⟩ :: _) _ _; first | refine O.val (Val.moveI rfl) ?_ | refine O.val (Val.moveB rfl) ?_ | refine O.val (Val.moveP rfl) ?_ | refine O.val (Val.moveV (by (conv => lhs; whnf); try rfl)) ?_)
      | (show O _ _ _ _ (⟨_, .assign _, _, _, _, none⟩ :: _) _ _; first | refine O.val (Val.assignI rfl) ?_ | refine O.val (Val.assignB rfl) ?_ | refine O.val (Val.assignP rfl) ?_ | refine O.val (Val.assignV (by (conv => lhs; whnf); try rfl)) ?_)
      | (show O _ _ _ _ (⟨_, .binOp .lss _ _ _ _, _, _, _, none⟩ :: _) _ _; first | refine O.val (Val.lss rfl rfl) ?_)
      | (show O _ _ _ _ (⟨_, .binOp .gtr _ _ _ _, _, _, _, none⟩ :: _) _ _; first | refine O.val (Val.gtr rfl rfl) ?_)
      | (show O _ _ _ _ (⟨_, .binOp .add _ _ _ _, _, _, _, none⟩ :: _) _ _; first | refine O.val (Val.addI rfl rfl (by first | omega | assumption)) ?_ | refine O.val (Val.addU rfl rfl rfl) ?_ | refine O.val (Val.addS rfl rfl (by first | omega | assumption)) ?_)
      | (show O _ _ _ _ (⟨_, .nilCheck _, _, _, _, none⟩ :: _) _ _; first | refine O.val (Val.nilCheck rfl) ?_)
      | (show O _ _ _ _ (⟨_, .fieldAddr _ _ _, _, _, _, none⟩ :: _) _ _; first | refine O.val (Val.fieldAddr rfl rfl) ?_)
      | (show O _ _ _ _ (⟨_, .extract _ _, _, _, _, none⟩ :: _) _ _; first | refine O.val (Val.extract rfl rfl) ?_)
      | (show O _ _ _ _ (⟨_, .pick _ _ _, _, _, _, none⟩ :: _) _ _; first | refine O.val (Val.pickT rfl rfl) ?_ | refine O.val (Val.pickF rfl rfl) ?_ | refine O.val (Val.pickDF rfl (by first | omega | assumption)) ?_ | refine O.val (Val.pickDT rfl (by first | omega | assumption)) ?_)
      | (show O _ _ _ _ (⟨_, .load _ _, _, _, _, none⟩ :: _) _ _; first | refine O.val (Val.loadBox rfl (H.has) (by (repeat (first | exact List.mem_cons_self | refine List.mem_cons_of_mem _ ?_)); first | done | fail) rfl) ?_ | refine O.val (Val.loadAtN rfl (by first | exact (H.has).row1 (by (repeat (first | exact List.mem_cons_self | refine List.mem_cons_of_mem _ ?_)); first | done | fail) | exact (H.has).ro (by (repeat (first | exact List.mem_cons_self | refine List.mem_cons_of_mem _ ?_)); first | done | fail)) (by first | omega | assumption)) ?_ | refine O.val (Val.loadAtV rfl (by first | exact (H.has).row1 (by (repeat (first | exact List.mem_cons_self | refine List.mem_cons_of_mem _ ?_)); first | done | fail) | exact (H.has).ro (by (repeat (first | exact List.mem_cons_self | refine List.mem_cons_of_mem _ ?_)); first | done | fail)) (by first | omega | assumption)) ?_ | refine O.val (Val.loadAtI rfl (by first | exact (H.has).row1 (by (repeat (first | exact List.mem_cons_self | refine List.mem_cons_of_mem _ ?_)); first | done | fail) | exact (H.has).ro (by (repeat (first | exact List.mem_cons_self | refine List.mem_cons_of_mem _ ?_)); first | done | fail)) (by first | omega | assumption)) ?_)
      | (show O _ _ _ _ (⟨_, _, _, _, _, some _⟩ :: _) _ _; first | refine O.gyes rfl rfl rfl ?_ | refine O.gno rfl rfl rfl ?_ | refine O.gF rfl rfl (by first | omega | assumption | with_reducible exact nself | with_reducible exact rfl) rfl ?_ | refine O.gT rfl rfl (by first | omega | assumption | with_reducible exact nself | with_reducible exact rfl) rfl ?_ | refine O.sF rfl rfl (by first | omega | assumption | with_reducible exact nself | with_reducible exact rfl) rfl ?_ | refine O.sT rfl rfl (by first | omega | assumption | with_reducible exact nself | with_reducible exact rfl) rfl ?_)
      | (show O _ _ _ _ (⟨_, .store _ _ _, _, _, _, none⟩ :: _) _ _; first | (refine O.storeBox rfl (by (conv => lhs; whnf); try rfl) (by first | rfl | exact (H.has).one (by (repeat (first | exact List.mem_cons_self | refine List.mem_cons_of_mem _ ?_)); first | done | fail) | exact (H.has).oneRo (by (repeat (first | exact List.mem_cons_self | refine List.mem_cons_of_mem _ ?_)); first | done | fail)) H (by (repeat (first | exact List.mem_cons_self | refine List.mem_cons_of_mem _ ?_)); first | done | fail) (by exact Nat.le_of_ble_eq_true rfl) (by (repeat (first | exact SetBox.here | apply SetBox.there)); first | done | fail) ?_; intro w H) | (refine O.storeRow (f := int_ .i64) rfl rfl rfl H (by (repeat (first | exact SetRow.here (by first | omega | assumption) | apply SetRow.there)); first | done | fail) ?_; intro w H))
      | (show C _ _ (.cond _ _ _) _ _ _; first | with_reducible refine C.condT rfl rfl ?_ | with_reducible refine C.condF rfl rfl ?_ | refine C.ifT rfl (by first | omega | assumption | with_reducible exact nself | with_reducible exact rfl) ?_ | refine C.ifF rfl (by first | omega | assumption | with_reducible exact nself | with_reducible exact rfl) ?_ | refine C.ifd rfl (fun hif => ?_) (fun hif => ?_))
      )
  exact ⟨rfl, H.picks (by (repeat (first | exact Picks.refl | (apply Picks.cons; focus ((repeat (first | exact Pull.here | apply Pull.there)); done)) | apply Picks.drop)); first | done | fail)⟩
/-- Bits are taken: there are not enough, or it is no number of bits. -/
theorem take_no {w0 w : World} {L : List Res} {p : Nat} {bv : Value} {bs : List Nat} {m : Nat} {z : Int} (H : Own w0 w (rdrL p bv bs m L)) (hb : Bytes bs) (hl : bs.length ≤ 1000000) (hm : m ≤ 8 * bs.length) (hn : z < 0 ∨ 32 < z ∨ (8 * bs.length - m : Nat) < z) :
    Call Try.prog 26 #[.pointer (some ⟨p, 0, none⟩), .int .i64 z] w fun r w' => r = .tuple #[.int .u32 0, .bool false] ∧ Own w0 w' (rdrL p bv bs m L) := by
  refine Call.of (n := 34) (rs := [4, 5]) Try.func26 rfl rfl rfl (by decide) (Nat.le_of_ble_eq_true rfl) ?_
  have hp : z < 0 ∨ 32 < z ∨ ((pkN z (8 * bs.length - m) : Nat) : Int) < z := by unfold pkN; omega
  by_cases h0 : z < 0
  · repeat' (first
      | with_reducible refine C.seq ?_
      | with_reducible refine C.region ?_
      | with_reducible refine C.block ?_
      | with_reducible refine J.thn ?_
      | with_reducible refine O.nil ?_
      | with_reducible refine J.blkN ?_
      | with_reducible refine C.skip ?_
      | with_reducible refine C.exit ?_
      | with_reducible refine C.ret ?_
      | with_reducible refine J.thnE ?_
      | with_reducible refine J.thnR ?_
      | with_reducible refine J.blkE ?_
      | with_reducible refine J.blkE' (by decide) ?_
      | with_reducible refine J.blkR ?_
      | with_reducible refine J.bodyR ?_
      | with_reducible refine J.bodyN ?_
      | (show O _ _ _ _ (⟨_, .call { callee := .value (.func 28), args := _, argTypes := _ }, _, _, _, none⟩ :: _) _ _; refine O.call rfl (peek_call H hb hl (by omega)) ?_; rintro _ w ⟨rfl, H⟩)
      | (show O _ _ _ _ (⟨_, .move _, _, _, _, none⟩ :: _) _ _; first | refine O.val (Val.moveI rfl) ?_ | refine O.val (Val.moveB rfl) ?_ | refine O.val (Val.moveP rfl) ?_ | refine O.val (Val.moveV (by (conv => lhs; whnf); try rfl)) ?_)
      | (show O _ _ _ _ (⟨_, .assign _, _, _, _, none⟩ :: _) _ _; first | refine O.val (Val.assignI rfl) ?_ | refine O.val (Val.assignB rfl) ?_ | refine O.val (Val.assignP rfl) ?_ | refine O.val (Val.assignV (by (conv => lhs; whnf); try rfl)) ?_)
      | (show O _ _ _ _ (⟨_, .binOp .lss _ _ _ _, _, _, _, none⟩ :: _) _ _; first | refine O.val (Val.lss rfl rfl) ?_)
      | (show O _ _ _ _ (⟨_, .binOp .gtr _ _ _ _, _, _, _, none⟩ :: _) _ _; first | refine O.val (Val.gtr rfl rfl) ?_)
      | (show O _ _ _ _ (⟨_, .binOp .add _ _ _ _, _, _, _, none⟩ :: _) _ _; first | refine O.val (Val.addI rfl rfl (by first | omega | assumption)) ?_ | refine O.val (Val.addU rfl rfl rfl) ?_ | refine O.val (Val.addS rfl rfl (by first | omega | assumption)) ?_)
      | (show O _ _ _ _ (⟨_, .nilCheck _, _, _, _, none⟩ :: _) _ _; first | refine O.val (Val.nilCheck rfl) ?_)
      | (show O _ _ _ _ (⟨_, .fieldAddr _ _ _, _, _, _, none⟩ :: _) _ _; first | refine O.val (Val.fieldAddr rfl rfl) ?_)
      | (show O _ _ _ _ (⟨_, .extract _ _, _, _, _, none⟩ :: _) _ _; first | refine O.val (Val.extract rfl rfl) ?_)
      | (show O _ _ _ _ (⟨_, .pick _ _ _, _, _, _, none⟩ :: _) _ _; first | refine O.val (Val.pickT rfl rfl) ?_ | refine O.val (Val.pickF rfl rfl) ?_ | refine O.val (Val.pickDF rfl (by first | omega | assumption)) ?_ | refine O.val (Val.pickDT rfl (by first | omega | assumption)) ?_)
      | (show O _ _ _ _ (⟨_, .load _ _, _, _, _, none⟩ :: _) _ _; first | refine O.val (Val.loadBox rfl (H.has) (by (repeat (first | exact List.mem_cons_self | refine List.mem_cons_of_mem _ ?_)); first | done | fail) rfl) ?_ | refine O.val (Val.loadAtN rfl (by first | exact (H.has).row1 (by (repeat (first | exact List.mem_cons_self | refine List.mem_cons_of_mem _ ?_)); first | done | fail) | exact (H.has).ro (by (repeat (first | exact List.mem_cons_self | refine List.mem_cons_of_mem _ ?_)); first | done | fail)) (by first | omega | assumption)) ?_ | refine O.val (Val.loadAtV rfl (by first | exact (H.has).row1 (by (repeat (first | exact List.mem_cons_self | refine List.mem_cons_of_mem _ ?_)); first | done | fail) | exact (H.has).ro (by (repeat (first | exact List.mem_cons_self | refine List.mem_cons_of_mem _ ?_)); first | done | fail)) (by first | omega | assumption)) ?_ | refine O.val (Val.loadAtI rfl (by first | exact (H.has).row1 (by (repeat (first | exact List.mem_cons_self | refine List.mem_cons_of_mem _ ?_)); first | done | fail) | exact (H.has).ro (by (repeat (first | exact List.mem_cons_self | refine List.mem_cons_of_mem _ ?_)); first | done | fail)) (by first | omega | assumption)) ?_)
      | (show O _ _ _ _ (⟨_, _, _, _, _, some _⟩ :: _) _ _; first | refine O.gyes rfl rfl rfl ?_ | refine O.gno rfl rfl rfl ?_ | refine O.gF rfl rfl (by first | omega | assumption | with_reducible exact nself | with_reducible exact rfl) rfl ?_ | refine O.gT rfl rfl (by first | omega | assumption | with_reducible exact nself | with_reducible exact rfl) rfl ?_ | refine O.sF rfl rfl (by first | omega | assumption | with_reducible exact nself | with_reducible exact rfl) rfl ?_ | refine O.sT rfl rfl (by first | omega | assumption | with_reducible exact nself | with_reducible exact rfl) rfl ?_)
      | (show O _ _ _ _ (⟨_, .store _ _ _, _, _, _, none⟩ :: _) _ _; first | (refine O.storeBox rfl (by (conv => lhs; whnf); try rfl) (by first | rfl | exact (H.has).one (by (repeat (first | exact List.mem_cons_self | refine List.mem_cons_of_mem _ ?_)); first | done | fail) | exact (H.has).oneRo (by (repeat (first | exact List.mem_cons_self | refine List.mem_cons_of_mem _ ?_)); first | done | fail)) H (by (repeat (first | exact List.mem_cons_self | refine List.mem_cons_of_mem _ ?_)); first | done | fail) (by exact Nat.le_of_ble_eq_true rfl) (by (repeat (first | exact SetBox.here | apply SetBox.there)); first | done | fail) ?_; intro w H) | (refine O.storeRow (f := int_ .i64) rfl rfl rfl H (by (repeat (first | exact SetRow.here (by first | omega | assumption) | apply SetRow.there)); first | done | fail) ?_; intro w H))
      | (show C _ _ (.cond _ _ _) _ _ _; first | with_reducible refine C.condT rfl rfl ?_ | with_reducible refine C.condF rfl rfl ?_ | refine C.ifT rfl (by first | omega | assumption | with_reducible exact nself | with_reducible exact rfl) ?_ | refine C.ifF rfl (by first | omega | assumption | with_reducible exact nself | with_reducible exact rfl) ?_ | refine C.ifd rfl (fun hif => ?_) (fun hif => ?_))
      )
    exact ⟨rfl, H⟩
  by_cases h1 : 32 < z
  · repeat' (first
      | with_reducible refine C.seq ?_
      | with_reducible refine C.region ?_
      | with_reducible refine C.block ?_
      | with_reducible refine J.thn ?_
      | with_reducible refine O.nil ?_
      | with_reducible refine J.blkN ?_
      | with_reducible refine C.skip ?_
      | with_reducible refine C.exit ?_
      | with_reducible refine C.ret ?_
      | with_reducible refine J.thnE ?_
      | with_reducible refine J.thnR ?_
      | with_reducible refine J.blkE ?_
      | with_reducible refine J.blkE' (by decide) ?_
      | with_reducible refine J.blkR ?_
      | with_reducible refine J.bodyR ?_
      | with_reducible refine J.bodyN ?_
      | (show O _ _ _ _ (⟨_, .call { callee := .value (.func 28), args := _, argTypes := _ }, _, _, _, none⟩ :: _) _ _; refine O.call rfl (peek_call H hb hl (by omega)) ?_; rintro _ w ⟨rfl, H⟩)
      | (show O _ _ _ _ (⟨_, .move _, _, _, _, none⟩ :: _) _ _; first | refine O.val (Val.moveI rfl) ?_ | refine O.val (Val.moveB rfl) ?_ | refine O.val (Val.moveP rfl) ?_ | refine O.val (Val.moveV (by (conv => lhs; whnf); try rfl)) ?_)
      | (show O _ _ _ _ (⟨_, .assign _, _, _, _, none⟩ :: _) _ _; first | refine O.val (Val.assignI rfl) ?_ | refine O.val (Val.assignB rfl) ?_ | refine O.val (Val.assignP rfl) ?_ | refine O.val (Val.assignV (by (conv => lhs; whnf); try rfl)) ?_)
      | (show O _ _ _ _ (⟨_, .binOp .lss _ _ _ _, _, _, _, none⟩ :: _) _ _; first | refine O.val (Val.lss rfl rfl) ?_)
      | (show O _ _ _ _ (⟨_, .binOp .gtr _ _ _ _, _, _, _, none⟩ :: _) _ _; first | refine O.val (Val.gtr rfl rfl) ?_)
      | (show O _ _ _ _ (⟨_, .binOp .add _ _ _ _, _, _, _, none⟩ :: _) _ _; first | refine O.val (Val.addI rfl rfl (by first | omega | assumption)) ?_ | refine O.val (Val.addU rfl rfl rfl) ?_ | refine O.val (Val.addS rfl rfl (by first | omega | assumption)) ?_)
      | (show O _ _ _ _ (⟨_, .nilCheck _, _, _, _, none⟩ :: _) _ _; first | refine O.val (Val.nilCheck rfl) ?_)
      | (show O _ _ _ _ (⟨_, .fieldAddr _ _ _, _, _, _, none⟩ :: _) _ _; first | refine O.val (Val.fieldAddr rfl rfl) ?_)
      | (show O _ _ _ _ (⟨_, .extract _ _, _, _, _, none⟩ :: _) _ _; first | refine O.val (Val.extract rfl rfl) ?_)
      | (show O _ _ _ _ (⟨_, .pick _ _ _, _, _, _, none⟩ :: _) _ _; first | refine O.val (Val.pickT rfl rfl) ?_ | refine O.val (Val.pickF rfl rfl) ?_ | refine O.val (Val.pickDF rfl (by first | omega | assumption)) ?_ | refine O.val (Val.pickDT rfl (by first | omega | assumption)) ?_)
      | (show O _ _ _ _ (⟨_, .load _ _, _, _, _, none⟩ :: _) _ _; first | refine O.val (Val.loadBox rfl (H.has) (by (repeat (first | exact List.mem_cons_self | refine List.mem_cons_of_mem _ ?_)); first | done | fail) rfl) ?_ | refine O.val (Val.loadAtN rfl (by first | exact (H.has).row1 (by (repeat (first | exact List.mem_cons_self | refine List.mem_cons_of_mem _ ?_)); first | done | fail) | exact (H.has).ro (by (repeat (first | exact List.mem_cons_self | refine List.mem_cons_of_mem _ ?_)); first | done | fail)) (by first | omega | assumption)) ?_ | refine O.val (Val.loadAtV rfl (by first | exact (H.has).row1 (by (repeat (first | exact List.mem_cons_self | refine List.mem_cons_of_mem _ ?_)); first | done | fail) | exact (H.has).ro (by (repeat (first | exact List.mem_cons_self | refine List.mem_cons_of_mem _ ?_)); first | done | fail)) (by first | omega | assumption)) ?_ | refine O.val (Val.loadAtI rfl (by first | exact (H.has).row1 (by (repeat (first | exact List.mem_cons_self | refine List.mem_cons_of_mem _ ?_)); first | done | fail) | exact (H.has).ro (by (repeat (first | exact List.mem_cons_self | refine List.mem_cons_of_mem _ ?_)); first | done | fail)) (by first | omega | assumption)) ?_)
      | (show O _ _ _ _ (⟨_, _, _, _, _, some _⟩ :: _) _ _; first | refine O.gyes rfl rfl rfl ?_ | refine O.gno rfl rfl rfl ?_ | refine O.gF rfl rfl (by first | omega | assumption | with_reducible exact nself | with_reducible exact rfl) rfl ?_ | refine O.gT rfl rfl (by first | omega | assumption | with_reducible exact nself | with_reducible exact rfl) rfl ?_ | refine O.sF rfl rfl (by first | omega | assumption | with_reducible exact nself | with_reducible exact rfl) rfl ?_ | refine O.sT rfl rfl (by first | omega | assumption | with_reducible exact nself | with_reducible exact rfl) rfl ?_)
      | (show O _ _ _ _ (⟨_, .store _ _ _, _, _, _, none⟩ :: _) _ _; first | (refine O.storeBox rfl (by (conv => lhs; whnf); try rfl) (by first | rfl | exact (H.has).one (by (repeat (first | exact List.mem_cons_self | refine List.mem_cons_of_mem _ ?_)); first | done | fail) | exact (H.has).oneRo (by (repeat (first | exact List.mem_cons_self | refine List.mem_cons_of_mem _ ?_)); first | done | fail)) H (by (repeat (first | exact List.mem_cons_self | refine List.mem_cons_of_mem _ ?_)); first | done | fail) (by exact Nat.le_of_ble_eq_true rfl) (by (repeat (first | exact SetBox.here | apply SetBox.there)); first | done | fail) ?_; intro w H) | (refine O.storeRow (f := int_ .i64) rfl rfl rfl H (by (repeat (first | exact SetRow.here (by first | omega | assumption) | apply SetRow.there)); first | done | fail) ?_; intro w H))
      | (show C _ _ (.cond _ _ _) _ _ _; first | with_reducible refine C.condT rfl rfl ?_ | with_reducible refine C.condF rfl rfl ?_ | refine C.ifT rfl (by first | omega | assumption | with_reducible exact nself | with_reducible exact rfl) ?_ | refine C.ifF rfl (by first | omega | assumption | with_reducible exact nself | with_reducible exact rfl) ?_ | refine C.ifd rfl (fun hif => ?_) (fun hif => ?_))
      )
    exact ⟨rfl, H⟩
  have h2 : ((pkN z (8 * bs.length - m) : Nat) : Int) < z := by omega
  repeat' (first
      | with_reducible refine C.seq ?_
      | with_reducible refine C.region ?_
      | with_reducible refine C.block ?_
      | with_reducible refine J.thn ?_
      | with_reducible refine O.nil ?_
      | with_reducible refine J.blkN ?_
      | with_reducible refine C.skip ?_
      | with_reducible refine C.exit ?_
      | with_reducible refine C.ret ?_
      | with_reducible refine J.thnE ?_
      | with_reducible refine J.thnR ?_
      | with_reducible refine J.blkE ?_
      | with_reducible refine J.blkE' (by decide) ?_
      | with_reducible refine J.blkR ?_
      | with_reducible refine J.bodyR ?_
      | with_reducible refine J.bodyN ?_
      | (show O _ _ _ _ (⟨_, .call { callee := .value (.func 28), args := _, argTypes := _ }, _, _, _, none⟩ :: _) _ _; refine O.call rfl (peek_call H hb hl (by omega)) ?_; rintro _ w ⟨rfl, H⟩)
      | (show O _ _ _ _ (⟨_, .move _, _, _, _, none⟩ :: _) _ _; first | refine O.val (Val.moveI rfl) ?_ | refine O.val (Val.moveB rfl) ?_ | refine O.val (Val.moveP rfl) ?_ | refine O.val (Val.moveV (by (conv => lhs; whnf); try rfl)) ?_)
      | (show O _ _ _ _ (⟨_, .assign _, _, _, _, none⟩ :: _) _ _; first | refine O.val (Val.assignI rfl) ?_ | refine O.val (Val.assignB rfl) ?_ | refine O.val (Val.assignP rfl) ?_ | refine O.val (Val.assignV (by (conv => lhs; whnf); try rfl)) ?_)
      | (show O _ _ _ _ (⟨_, .binOp .lss _ _ _ _, _, _, _, none⟩ :: _) _ _; first | refine O.val (Val.lss rfl rfl) ?_)
      | (show O _ _ _ _ (⟨_, .binOp .gtr _ _ _ _, _, _, _, none⟩ :: _) _ _; first | refine O.val (Val.gtr rfl rfl) ?_)
      | (show O _ _ _ _ (⟨_, .binOp .add _ _ _ _, _, _, _, none⟩ :: _) _ _; first | refine O.val (Val.addI rfl rfl (by first | omega | assumption)) ?_ | refine O.val (Val.addU rfl rfl rfl) ?_ | refine O.val (Val.addS rfl rfl (by first | omega | assumption)) ?_)
      | (show O _ _ _ _ (⟨_, .nilCheck _, _, _, _, none⟩ :: _) _ _; first | refine O.val (Val.nilCheck rfl) ?_)
      | (show O _ _ _ _ (⟨_, .fieldAddr _ _ _, _, _, _, none⟩ :: _) _ _; first | refine O.val (Val.fieldAddr rfl rfl) ?_)
      | (show O _ _ _ _ (⟨_, .extract _ _, _, _, _, none⟩ :: _) _ _; first | refine O.val (Val.extract rfl rfl) ?_)
      | (show O _ _ _ _ (⟨_, .pick _ _ _, _, _, _, none⟩ :: _) _ _; first | refine O.val (Val.pickT rfl rfl) ?_ | refine O.val (Val.pickF rfl rfl) ?_ | refine O.val (Val.pickDF rfl (by first | omega | assumption)) ?_ | refine O.val (Val.pickDT rfl (by first | omega | assumption)) ?_)
      | (show O _ _ _ _ (⟨_, .load _ _, _, _, _, none⟩ :: _) _ _; first | refine O.val (Val.loadBox rfl (H.has) (by (repeat (first | exact List.mem_cons_self | refine List.mem_cons_of_mem _ ?_)); first | done | fail) rfl) ?_ | refine O.val (Val.loadAtN rfl (by first | exact (H.has).row1 (by (repeat (first | exact List.mem_cons_self | refine List.mem_cons_of_mem _ ?_)); first | done | fail) | exact (H.has).ro (by (repeat (first | exact List.mem_cons_self | refine List.mem_cons_of_mem _ ?_)); first | done | fail)) (by first | omega | assumption)) ?_ | refine O.val (Val.loadAtV rfl (by first | exact (H.has).row1 (by (repeat (first | exact List.mem_cons_self | refine List.mem_cons_of_mem _ ?_)); first | done | fail) | exact (H.has).ro (by (repeat (first | exact List.mem_cons_self | refine List.mem_cons_of_mem _ ?_)); first | done | fail)) (by first | omega | assumption)) ?_ | refine O.val (Val.loadAtI rfl (by first | exact (H.has).row1 (by (repeat (first | exact List.mem_cons_self | refine List.mem_cons_of_mem _ ?_)); first | done | fail) | exact (H.has).ro (by (repeat (first | exact List.mem_cons_self | refine List.mem_cons_of_mem _ ?_)); first | done | fail)) (by first | omega | assumption)) ?_)
      | (show O _ _ _ _ (⟨_, _, _, _, _, some _⟩ :: _) _ _; first | refine O.gyes rfl rfl rfl ?_ | refine O.gno rfl rfl rfl ?_ | refine O.gF rfl rfl (by first | omega | assumption | with_reducible exact nself | with_reducible exact rfl) rfl ?_ | refine O.gT rfl rfl (by first | omega | assumption | with_reducible exact nself | with_reducible exact rfl) rfl ?_ | refine O.sF rfl rfl (by first | omega | assumption | with_reducible exact nself | with_reducible exact rfl) rfl ?_ | refine O.sT rfl rfl (by first | omega | assumption | with_reducible exact nself | with_reducible exact rfl) rfl ?_)
      | (show O _ _ _ _ (⟨_, .store _ _ _, _, _, _, none⟩ :: _) _ _; first | (refine O.storeBox rfl (by (conv => lhs; whnf); try rfl) (by first | rfl | exact (H.has).one (by (repeat (first | exact List.mem_cons_self | refine List.mem_cons_of_mem _ ?_)); first | done | fail) | exact (H.has).oneRo (by (repeat (first | exact List.mem_cons_self | refine List.mem_cons_of_mem _ ?_)); first | done | fail)) H (by (repeat (first | exact List.mem_cons_self | refine List.mem_cons_of_mem _ ?_)); first | done | fail) (by exact Nat.le_of_ble_eq_true rfl) (by (repeat (first | exact SetBox.here | apply SetBox.there)); first | done | fail) ?_; intro w H) | (refine O.storeRow (f := int_ .i64) rfl rfl rfl H (by (repeat (first | exact SetRow.here (by first | omega | assumption) | apply SetRow.there)); first | done | fail) ?_; intro w H))
      | (show C _ _ (.cond _ _ _) _ _ _; first | with_reducible refine C.condT rfl rfl ?_ | with_reducible refine C.condF rfl rfl ?_ | refine C.ifT rfl (by first | omega | assumption | with_reducible exact nself | with_reducible exact rfl) ?_ | refine C.ifF rfl (by first | omega | assumption | with_reducible exact nself | with_reducible exact rfl) ?_ | refine C.ifd rfl (fun hif => ?_) (fun hif => ?_))
      )
  exact ⟨rfl, H⟩
end Go.Proofs.Ytmffpmmhdianeaa.X
