/- Tokens one behind the other; as the document has them. Nothing is assumed. -/
import Derived.Test.YtcibdcfdchpnpaaLz
namespace Go.Proofs.Ytcibdcfdchpnpaa.X
open Go Go.RowKit
set_option linter.unusedSimpArgs false
set_option linter.unusedVariables false

/-- Put: the bytes that came in stay. -/
theorem lzPut_no {w0 w : World} {L : List Res} {v : Value} {bs : List Nat} {x : TokR} {z : Int} (H : Own w0 w L) (hr : Rd1 w0 L v (nat_ .u8) bs) (hl : bs.length ≤ 1000000000) (hz : -9223372036854775808 ≤ z ∧ z ≤ 9223372036854775807) (he : putE bs.length x z.toNat ≠ 0) :
    Call Try.prog 28 #[v, .agg (tokV x).toArray, .int .i64 z] w fun r w' => r = .tuple #[.slice none 0 0, .int .i64 (putE bs.length x z.toNat : Nat)] ∧ Own w0 w' L := by
  refine Call.of (n := 23) (rs := [6, 7]) Try.func28 rfl rfl rfl (by decide) (Nat.le_of_ble_eq_true rfl) ?_
  have hm : z.toNat ≤ 9223372036854775807 := by omega
  repeat' (first
      | (show C _ _ (.region 1 _ true) _ _ _; (refine C.drawnSub [2] (.take 0 (.takeS 2 (.take 3 (.take 4 (.solo 1 (.solo 5 (.take 6 (.take 7 (.take 8 (.take 9 (.take 10 .done))))))))))) [.box b 38 (tokV x)] (by kernel_rfl) (by (repeat (first | with_reducible exact NoPan.body | with_reducible exact NoPan.endS | with_reducible refine NoPan.thn ?_ | with_reducible refine NoPan.blk ?_)); first | done | fail) H (by (repeat (first | exact Sub.refl | exact Sub.nil | refine Sub.mem (by (repeat (first | exact List.mem_cons_self | refine List.mem_cons_of_mem _ ?_)); first | done | fail) ?_ | refine Sub.cons ?_)); first | done | fail) ?_; intro w H hS))
      | with_reducible refine C.seq ?_
      | with_reducible refine C.region ?_
      | with_reducible refine J.thn ?_
      | with_reducible refine O.nil ?_
      | with_reducible refine C.ret ?_
      | with_reducible refine J.thnR ?_
      | with_reducible refine J.bodyR ?_
      | (show O _ _ _ _ (⟨_, .move _, _, _, _, none⟩ :: _) _ _; refine O.val (Val.moveI rfl) ?_)
      | (show O _ _ _ _ (⟨_, .assign _, _, _, _, none⟩ :: _) _ _; first | refine O.val (Val.assignI rfl) ?_ | refine O.val (Val.assignV (by (conv => lhs; whnf); try rfl)) ?_)
      | (show O _ _ _ _ (⟨_, .binOp .neq _ _ _ _, _, _, _, none⟩ :: _) _ _; refine O.val (Val.neq rfl rfl) ?_)
      | (show O _ _ _ _ (⟨_, .box _ _, _, _, _, none⟩ :: _) _ _; (refine O.boxAgg rfl H ?_; intro b w H))
      | (show C _ _ (.cond _ _ _) _ _ _; refine C.ifT rfl (by first | omega | assumption | with_reducible exact nself | with_reducible exact rfl) ?_)
      | with_reducible refine D.done ?_
      | refine D.take rfl ?_
      | refine D.takeS rfl ?_
      | refine D.solo rfl rfl ?_
      | (show DW _ _ _ _ _ _ ⟨_, .call { callee := .value (.func 45), args := _, argTypes := _ }, _, _, _, none⟩ _ _ _ _; refine DW.call rfl (cloneB_call H (hr.mono (by (repeat (first | exact Sub.refl | exact Sub.nil | refine Sub.mem (by (repeat (first | exact List.mem_cons_self | refine List.mem_cons_of_mem _ ?_)); first | done | fail) ?_ | refine Sub.cons ?_)); first | done | fail)) (by omega)) ?_; rintro u w H; refine ⟨by first | exact (fun _ _ => H.has.mono (by (repeat (first | exact Sub.refl | exact Sub.nil | refine Sub.mem (by (repeat (first | exact List.mem_cons_self | refine List.mem_cons_of_mem _ ?_)); first | done | fail) ?_ | refine Sub.cons ?_)); first | done | fail)) | exact (fun hk => absurd hk (by decide +kernel)), ?_⟩)
      | (show DW _ _ _ _ _ _ ⟨_, .call { callee := .value (.func 44), args := _, argTypes := _ }, _, _, _, none⟩ _ _ _ _; refine DW.call rfl (putL_no (v := u) (H.picks (by (repeat (first | exact Picks.refl | (apply Picks.cons; focus ((repeat (first | exact Pull.here | apply Pull.there)); done)) | apply Picks.drop)); first | done | fail)) hl hm he) ?_; rintro _ w ⟨rfl, H⟩; refine ⟨by first | exact (fun _ _ => H.has.mono (by (repeat (first | exact Sub.refl | exact Sub.nil | refine Sub.mem (by (repeat (first | exact List.mem_cons_self | refine List.mem_cons_of_mem _ ?_)); first | done | fail) ?_ | refine Sub.cons ?_)); first | done | fail)) | exact (fun hk => absurd hk (by decide +kernel)), ?_⟩)
      | (show DT _ _ _ _ _ _ ⟨_, .call { callee := .builtin .max, args := #[_, .const _], argTypes := _ }, _, _, _, none⟩ _ _ _; refine DT.val (fun _ => Val.maxZ rfl rfl) ?_)
      | (show DT _ _ _ _ _ _ ⟨_, .move _, _, _, _, none⟩ _ _ _; first | refine DT.val (fun _ => Val.moveI rfl) ?_ | refine DT.val (fun _ => Val.moveV (by (conv => lhs; whnf); try rfl)) ?_)
      | (show DT _ _ _ _ _ _ ⟨_, .assign _, _, _, _, none⟩ _ _ _; first | refine DT.val (fun _ => Val.assignI rfl) ?_ | refine DT.val (fun _ => Val.assignV (by (conv => lhs; whnf); try rfl)) ?_)
      | (show DT _ _ _ _ _ _ ⟨_, .extract _ _, _, _, _, none⟩ _ _ _; refine DT.val (fun _ => Val.extract rfl rfl) ?_)
      | (show DS _ _ _ _ _ _ ⟨_, .load _ _, _, _, _, none⟩ _ _ _; refine DS.val (by first | exact hS | exact H.has.mono (by (repeat (first | exact Sub.refl | exact Sub.nil | refine Sub.mem (by (repeat (first | exact List.mem_cons_self | refine List.mem_cons_of_mem _ ?_)); first | done | fail) ?_ | refine Sub.cons ?_)); first | done | fail)) (fun _ hS => Val.loadAggBox rfl (hS) (by (repeat (first | exact List.mem_cons_self | refine List.mem_cons_of_mem _ ?_)); first | done | fail) (by exact rfl)) ?_)
      )
  exact ⟨rfl, H.picks (by (repeat (first | exact Picks.refl | (apply Picks.cons; focus ((repeat (first | exact Pull.here | apply Pull.there)); done)) | apply Picks.drop)); first | done | fail)⟩
theorem lzPut_yes {w0 w : World} {L : List Res} {v : Value} {bs : List Nat} {x : TokR} {z : Int} (H : Own w0 w L) (hr : Rd1 w0 L v (nat_ .u8) bs) (hl : bs.length ≤ 1000000000) (hz : -9223372036854775808 ≤ z ∧ z ≤ 9223372036854775807) (he : putE bs.length x z.toNat = 0) :
    Call Try.prog 28 #[v, .agg (tokV x).toArray, .int .i64 z] w fun r w' => ∃ v', r = .tuple #[v', .int .i64 0] ∧ Own w0 w' (row1 v' 5 (nat_ .u8) (putB bs x) :: L) := by
  refine Call.of (n := 23) (rs := [6, 7]) Try.func28 rfl rfl rfl (by decide) (Nat.le_of_ble_eq_true rfl) ?_
  have hm : z.toNat ≤ 9223372036854775807 := by omega
  repeat' (first
      | (show C _ _ (.region 1 _ true) _ _ _; (refine C.drawnSub [2] (.take 0 (.takeS 2 (.take 3 (.take 4 (.solo 1 (.solo 5 (.take 6 (.take 7 (.take 8 (.take 9 (.take 10 .done))))))))))) [.box b 38 (tokV x)] (by kernel_rfl) (by (repeat (first | with_reducible exact NoPan.body | with_reducible exact NoPan.endS | with_reducible refine NoPan.thn ?_ | with_reducible refine NoPan.blk ?_)); first | done | fail) H (by (repeat (first | exact Sub.refl | exact Sub.nil | refine Sub.mem (by (repeat (first | exact List.mem_cons_self | refine List.mem_cons_of_mem _ ?_)); first | done | fail) ?_ | refine Sub.cons ?_)); first | done | fail) ?_; intro w H hS))
      | with_reducible refine C.seq ?_
      | with_reducible refine C.region ?_
      | with_reducible refine J.thn ?_
      | with_reducible refine O.nil ?_
      | with_reducible refine C.skip ?_
      | with_reducible refine C.ret ?_
      | with_reducible refine J.bodyR ?_
      | (show O _ _ _ _ (⟨_, .move _, _, _, _, none⟩ :: _) _ _; first | refine O.val (Val.moveI rfl) ?_ | refine O.val (Val.moveV (by (conv => lhs; whnf); try rfl)) ?_)
      | (show O _ _ _ _ (⟨_, .assign _, _, _, _, none⟩ :: _) _ _; first | refine O.val (Val.assignI rfl) ?_ | refine O.val (Val.assignV (by (conv => lhs; whnf); try rfl)) ?_)
      | (show O _ _ _ _ (⟨_, .binOp .neq _ _ _ _, _, _, _, none⟩ :: _) _ _; refine O.val (Val.neq rfl rfl) ?_)
      | (show O _ _ _ _ (⟨_, .box _ _, _, _, _, none⟩ :: _) _ _; (refine O.boxAgg rfl H ?_; intro b w H))
      | (show C _ _ (.cond _ _ _) _ _ _; with_reducible refine C.condF rfl rfl ?_)
      | with_reducible refine D.done ?_
      | refine D.take rfl ?_
      | refine D.takeS rfl ?_
      | refine D.solo rfl rfl ?_
      | (show DW _ _ _ _ _ _ ⟨_, .call { callee := .value (.func 45), args := _, argTypes := _ }, _, _, _, none⟩ _ _ _ _; refine DW.call rfl (cloneB_call H (hr.mono (by (repeat (first | exact Sub.refl | exact Sub.nil | refine Sub.mem (by (repeat (first | exact List.mem_cons_self | refine List.mem_cons_of_mem _ ?_)); first | done | fail) ?_ | refine Sub.cons ?_)); first | done | fail)) (by omega)) ?_; rintro u w H; refine ⟨by first | exact (fun _ _ => H.has.mono (by (repeat (first | exact Sub.refl | exact Sub.nil | refine Sub.mem (by (repeat (first | exact List.mem_cons_self | refine List.mem_cons_of_mem _ ?_)); first | done | fail) ?_ | refine Sub.cons ?_)); first | done | fail)) | exact (fun hk => absurd hk (by decide +kernel)), ?_⟩)
      | (show DW _ _ _ _ _ _ ⟨_, .call { callee := .value (.func 44), args := _, argTypes := _ }, _, _, _, none⟩ _ _ _ _; refine DW.call rfl (putL_yes (v := u) (H.picks (by (repeat (first | exact Picks.refl | (apply Picks.cons; focus ((repeat (first | exact Pull.here | apply Pull.there)); done)) | apply Picks.drop)); first | done | fail)) hl hm he) ?_; rintro _ w ⟨v2, rfl, H⟩; refine ⟨by first | exact (fun _ _ => H.has.mono (by (repeat (first | exact Sub.refl | exact Sub.nil | refine Sub.mem (by (repeat (first | exact List.mem_cons_self | refine List.mem_cons_of_mem _ ?_)); first | done | fail) ?_ | refine Sub.cons ?_)); first | done | fail)) | exact (fun hk => absurd hk (by decide +kernel)), ?_⟩)
      | (show DT _ _ _ _ _ _ ⟨_, .call { callee := .builtin .max, args := #[_, .const _], argTypes := _ }, _, _, _, none⟩ _ _ _; refine DT.val (fun _ => Val.maxZ rfl rfl) ?_)
      | (show DT _ _ _ _ _ _ ⟨_, .move _, _, _, _, none⟩ _ _ _; first | refine DT.val (fun _ => Val.moveI rfl) ?_ | refine DT.val (fun _ => Val.moveV (by (conv => lhs; whnf); try rfl)) ?_)
      | (show DT _ _ _ _ _ _ ⟨_, .assign _, _, _, _, none⟩ _ _ _; first | refine DT.val (fun _ => Val.assignI rfl) ?_ | refine DT.val (fun _ => Val.assignV (by (conv => lhs; whnf); try rfl)) ?_)
      | (show DT _ _ _ _ _ _ ⟨_, .extract _ _, _, _, _, none⟩ _ _ _; refine DT.val (fun _ => Val.extract rfl rfl) ?_)
      | (show DS _ _ _ _ _ _ ⟨_, .load _ _, _, _, _, none⟩ _ _ _; refine DS.val (by first | exact hS | exact H.has.mono (by (repeat (first | exact Sub.refl | exact Sub.nil | refine Sub.mem (by (repeat (first | exact List.mem_cons_self | refine List.mem_cons_of_mem _ ?_)); first | done | fail) ?_ | refine Sub.cons ?_)); first | done | fail)) (fun _ hS => Val.loadAggBox rfl (hS) (by (repeat (first | exact List.mem_cons_self | refine List.mem_cons_of_mem _ ?_)); first | done | fail) (by exact rfl)) ?_)
      )
  exact ⟨_, rfl, H.picks (by (repeat (first | exact Picks.refl | (apply Picks.cons; focus ((repeat (first | exact Pull.here | apply Pull.there)); done)) | apply Picks.drop)); first | done | fail)⟩
/-- What tokens tell, from so many on: the bytes, how many were put, what was wrong. -/
def expF (most : Nat) : List Nat → Nat → List TokR → List Nat × Nat × Nat
  | b, i, [] => (b, i, 0)
  | b, i, x :: l => if putE b.length x most = 0 then expF most (putB b x) (i + 1) l else (b, i, putE b.length x most)
/-- The bytes of tokens that may be put, one behind the other. -/
def runB (l : List TokR) : List Nat := l.foldl putB []
theorem drop_cons {α : Type} (d : α) {l : List α} {i : Nat} (h : i < l.length) : l.drop i = l.getD i d :: l.drop (i + 1) := by
  rw [List.drop_eq_getElem_cons h]
  congr 1
  simp [List.getD, h]
set_option maxHeartbeats 1000000 in
theorem expand_call {w0 w : World} {L : List Res} {lv : Value} {l : List TokR} {z : Int} (H : Own w0 w L) (hr : RdK w0 L lv 3 tokV l) (hl : l.length ≤ 1000000) (hz : -9223372036854775808 ≤ z ∧ z ≤ 9223372036854775807) :
    Call Try.prog 27 #[.int .i64 z, lv] w fun r w' => ∃ v, r = .tuple #[v, .int .i64 ((expF z.toNat [] 0 l).2.1 : Nat), .int .i64 ((expF z.toNat [] 0 l).2.2 : Nat)] ∧ Own w0 w' (row1 v 5 (nat_ .u8) (expF z.toNat [] 0 l).1 :: L) := by
  refine Call.of (n := 37) (rs := [4, 5, 6]) Try.func27 rfl rfl rfl (by decide) (Nat.le_of_ble_eq_true rfl) ?_
  have hm : z.toNat ≤ 9223372036854775807 := by omega
  have H := H.nil1 5 (nat_ .u8)
  repeat' (first
      | with_reducible refine C.seq ?_
      | with_reducible refine C.region ?_
      | with_reducible refine C.block ?_
      | with_reducible refine J.thn ?_
      | with_reducible refine O.nil ?_
      | (show O _ _ _ _ (⟨_, .move _, _, _, _, none⟩ :: _) _ _; first | refine O.val (Val.moveI rfl) ?_ | refine O.val (Val.moveV (by (conv => lhs; whnf); try rfl)) ?_)
      | (show O _ _ _ _ (⟨_, .assign _, _, _, _, none⟩ :: _) _ _; first | refine O.val (Val.assignI rfl) ?_ | refine O.val (Val.assignV (by (conv => lhs; whnf); try rfl)) ?_)
      | (show O _ _ _ _ (⟨_, .call { callee := .builtin .len, args := _, argTypes := _ }, _, _, _, none⟩ :: _) _ _; refine O.val (Val.len (by (conv => lhs; whnf); try rfl) (by first | exact hr _ ((H.has).mono (by (repeat (first | exact Sub.refl | exact Sub.nil | refine Sub.mem (by (repeat (first | exact List.mem_cons_self | refine List.mem_cons_of_mem _ ?_)); first | done | fail) ?_ | refine Sub.cons ?_)); first | done | fail)) | exact (H.has).row1 (by (repeat (first | exact List.mem_cons_self | refine List.mem_cons_of_mem _ ?_)); first | done | fail) | exact (H.has).ro (by (repeat (first | exact List.mem_cons_self | refine List.mem_cons_of_mem _ ?_)); first | done | fail) | exact (H.has).rowKm (by (repeat (first | exact List.mem_cons_self | refine List.mem_cons_of_mem _ ?_)); first | done | fail) (by decide))) ?_)
      )
  refine C.loopS (fun s : Nat × Value × List Nat => [(0, .int .i64 z), (1, lv), (7, s.2.1), (12, lv), (13, .int .i64 ((l.length : Nat) : Int)), (14, .int .i64 ((s.1 : Nat) : Int))]) (fun m s w => Own w0 w (row1 s.2.1 5 (nat_ .u8) s.2.2 :: L) ∧ expF z.toNat [] 0 l = expF z.toNat s.2.2 s.1 (l.drop s.1) ∧ s.2.2.length ≤ 258 * s.1 ∧ s.1 ≤ l.length ∧ m = l.length - s.1) l.length (0, .slice none 0 0, []) ⟨H.picks (by (repeat (first | exact Picks.refl | (apply Picks.cons; focus ((repeat (first | exact Pull.here | apply Pull.there)); done)) | apply Picks.drop)); first | done | fail), by simp, by simp, by simp, by simp⟩ ⟨rfl, rfl, rfl, rfl, rfl, rfl, trivial⟩ ?_
  rintro m ⟨i, v, b⟩ e w ⟨H, hE, hb, hi, rfl⟩
  simp only at H hE hb hi
  dsimp only
  by_cases hil : i < l.length
  · obtain ⟨x, hx⟩ : ∃ x, x = l.getD i default := ⟨_, rfl⟩
    rw [drop_cons default hil, ← hx] at hE
    have hag : Value.agg (tokV (l.getD i default)).toArray = .agg (tokV x).toArray := by rw [hx]
    have hbl : b.length ≤ 1000000000 := by omega
    by_cases he : putE b.length x z.toNat = 0
    · simp only [expF, he, if_true] at hE
      have hlen := putB_len (b := b) (putE_zero he).1
      have hxl : (max x.len 1).toNat ≤ 258 := by
        have := (putE_zero he).1; unfold TokR.ok at this; omega
      repeat' (first
          | with_reducible refine C.seq ?_
          | with_reducible refine C.region ?_
          | with_reducible refine C.block ?_
          | with_reducible refine J.thn ?_
          | with_reducible refine O.nil ?_
          | with_reducible refine J.blkN ?_
          | with_reducible refine C.skip ?_
          | (show O _ _ _ _ (⟨some 18, .load _ _, _, _, _, none⟩ :: _) _ _; refine O.val (Val.as (Val.loadAggK default rfl (hr _ (H.has.mono (by (repeat (first | exact Sub.refl | exact Sub.nil | refine Sub.mem (by (repeat (first | exact List.mem_cons_self | refine List.mem_cons_of_mem _ ?_)); first | done | fail) ?_ | refine Sub.cons ?_)); first | done | fail))) (by omega)) hag) ?_)
          | (show O _ _ _ _ (⟨_, .alloc _, _, _, _, none⟩ :: _) _ _; refine O.alloc rfl H ?_; intro o w H)
          | (show O _ _ _ _ (⟨_, .call { callee := .value (.func 44), args := _, argTypes := _ }, _, _, _, none⟩ :: _) _ _; refine O.call rfl (putL_yes (v := v) (H.picks (by (repeat (first | exact Picks.refl | (apply Picks.cons; focus ((repeat (first | exact Pull.here | apply Pull.there)); done)) | apply Picks.drop)); first | done | fail)) hbl hm he) ?_; rintro _ w ⟨v2, rfl, H⟩)
          | (show O _ _ _ _ (⟨_, .binOp .add _ _ (.const _) _, _, _, _, none⟩ :: _) _ _; refine O.val (Val.addL rfl rfl (by first | omega | assumption | decide | with_reducible exact nself | with_reducible exact rfl)) ?_)
          | (show O _ _ _ _ (⟨_, .call { callee := .builtin .max, args := #[_, .const _], argTypes := _ }, _, _, _, none⟩ :: _) _ _; refine O.val (Val.maxZ rfl rfl) ?_)
          | (show O _ _ _ _ (⟨_, .move _, _, _, _, none⟩ :: _) _ _; first | refine O.val (Val.moveI rfl) ?_ | refine O.val (Val.moveV (by (conv => lhs; whnf); try rfl)) ?_)
          | (show O _ _ _ _ (⟨_, .assign _, _, _, _, none⟩ :: _) _ _; first | refine O.val (Val.assignI rfl) ?_ | refine O.val (Val.assignV (by (conv => lhs; whnf); try rfl)) ?_)
          | (show O _ _ _ _ (⟨_, .binOp .lss _ _ _ _, _, _, _, none⟩ :: _) _ _; refine O.val (Val.lss rfl rfl) ?_)
          | (show O _ _ _ _ (⟨_, .binOp .neq _ _ _ _, _, _, _, none⟩ :: _) _ _; refine O.val (Val.neq rfl rfl) ?_)
          | (show O _ _ _ _ (⟨_, .extract _ _, _, _, _, none⟩ :: _) _ _; refine O.val (Val.extract rfl rfl) ?_)
          | (show O _ _ _ _ (⟨_, .load _ _, _, _, _, none⟩ :: _) _ _; refine O.val (Val.loadAggBox rfl (H.has) (by (repeat (first | exact List.mem_cons_self | refine List.mem_cons_of_mem _ ?_)); first | done | fail) (by exact rfl)) ?_)
          | (show O _ _ _ _ (⟨_, .indexAddr _ _ _, _, _, _, none⟩ :: _) _ _; refine O.val (Val.idxK (by (conv => lhs; whnf); try rfl) rfl (by first | exact hr _ ((H.has).mono (by (repeat (first | exact Sub.refl | exact Sub.nil | refine Sub.mem (by (repeat (first | exact List.mem_cons_self | refine List.mem_cons_of_mem _ ?_)); first | done | fail) ?_ | refine Sub.cons ?_)); first | done | fail)) | exact (H.has).row1 (by (repeat (first | exact List.mem_cons_self | refine List.mem_cons_of_mem _ ?_)); first | done | fail) | exact (H.has).ro (by (repeat (first | exact List.mem_cons_self | refine List.mem_cons_of_mem _ ?_)); first | done | fail) | exact (H.has).rowKm (by (repeat (first | exact List.mem_cons_self | refine List.mem_cons_of_mem _ ?_)); first | done | fail) (by decide)) (by first | omega | assumption | decide | with_reducible exact nself | with_reducible exact rfl)) ?_)
          | (show O _ _ _ _ (⟨_, .store _ _ _, _, _, _, none⟩ :: _) _ _; (refine O.storeAgg rfl rfl (by exact rfl) (by (repeat (first | exact List.forall_mem_nil _ | refine List.forall_mem_cons.2 ⟨(by first | rfl | exact (H.has).one (by (repeat (first | exact List.mem_cons_self | refine List.mem_cons_of_mem _ ?_)); first | done | fail) | exact (H.has).oneRo (by (repeat (first | exact List.mem_cons_self | refine List.mem_cons_of_mem _ ?_)); first | done | fail) | exact (hr _ ((H.has).mono (by (repeat (first | exact Sub.refl | exact Sub.nil | refine Sub.mem (by (repeat (first | exact List.mem_cons_self | refine List.mem_cons_of_mem _ ?_)); first | done | fail) ?_ | refine Sub.cons ?_)); first | done | fail))).one), ?_⟩)); first | done | fail) H (by (repeat (first | exact SetWhole.here rfl | apply SetWhole.there)); first | done | fail) ?_; intro w H))
          | (show C _ _ (.cond _ _ _) _ _ _; first | with_reducible refine C.condF rfl rfl ?_ | refine C.ifT rfl (by first | omega | assumption | with_reducible exact nself | with_reducible exact rfl) ?_)
          )
      exact ⟨l.length - (i + 1), (i + 1, _, _), by omega, ⟨H.picks (by (repeat (first | exact Picks.refl | (apply Picks.cons; focus ((repeat (first | exact Pull.here | apply Pull.there)); done)) | apply Picks.drop)); first | done | fail), hE, (by show (putB b x).length ≤ 258 * (i + 1); omega), hil, rfl⟩, ⟨rfl, rfl, rfl, rfl, rfl, rfl, trivial⟩⟩
    · simp only [expF, he, if_false] at hE
      have he' : ((putE b.length x z.toNat : Nat) : Int) ≠ 0 := by omega
      repeat' (first
          | with_reducible refine C.seq ?_
          | with_reducible refine C.region ?_
          | with_reducible refine C.block ?_
          | with_reducible refine J.thn ?_
          | with_reducible refine O.nil ?_
          | with_reducible refine C.skip ?_
          | with_reducible refine C.ret ?_
          | with_reducible refine J.thnR ?_
          | with_reducible refine J.blkR ?_
          | with_reducible refine J.bodyR ?_
          | (show O _ _ _ _ (⟨some 18, .load _ _, _, _, _, none⟩ :: _) _ _; refine O.val (Val.as (Val.loadAggK default rfl (hr _ (H.has.mono (by (repeat (first | exact Sub.refl | exact Sub.nil | refine Sub.mem (by (repeat (first | exact List.mem_cons_self | refine List.mem_cons_of_mem _ ?_)); first | done | fail) ?_ | refine Sub.cons ?_)); first | done | fail))) (by omega)) hag) ?_)
          | (show O _ _ _ _ (⟨_, .alloc _, _, _, _, none⟩ :: _) _ _; refine O.alloc rfl H ?_; intro o w H)
          | (show O _ _ _ _ (⟨_, .call { callee := .value (.func 44), args := _, argTypes := _ }, _, _, _, none⟩ :: _) _ _; refine O.call rfl (putL_no (v := v) (H.picks (by (repeat (first | exact Picks.refl | (apply Picks.cons; focus ((repeat (first | exact Pull.here | apply Pull.there)); done)) | apply Picks.drop)); first | done | fail)) hbl hm he) ?_; rintro _ w ⟨rfl, H⟩)
          | (show O _ _ _ _ (⟨_, .call { callee := .builtin .max, args := #[_, .const _], argTypes := _ }, _, _, _, none⟩ :: _) _ _; refine O.val (Val.maxZ rfl rfl) ?_)
          | (show O _ _ _ _ (⟨_, .move _, _, _, _, none⟩ :: _) _ _; first | refine O.val (Val.moveI rfl) ?_ | refine O.val (Val.moveV (by (conv => lhs; whnf); try rfl)) ?_)
          | (show O _ _ _ _ (⟨_, .assign _, _, _, _, none⟩ :: _) _ _; first | refine O.val (Val.assignI rfl) ?_ | refine O.val (Val.assignV (by (conv => lhs; whnf); try rfl)) ?_)
          | (show O _ _ _ _ (⟨_, .binOp .lss _ _ _ _, _, _, _, none⟩ :: _) _ _; refine O.val (Val.lss rfl rfl) ?_)
          | (show O _ _ _ _ (⟨_, .binOp .neq _ _ _ _, _, _, _, none⟩ :: _) _ _; refine O.val (Val.neq rfl rfl) ?_)
          | (show O _ _ _ _ (⟨_, .extract _ _, _, _, _, none⟩ :: _) _ _; refine O.val (Val.extract rfl rfl) ?_)
          | (show O _ _ _ _ (⟨_, .load _ _, _, _, _, none⟩ :: _) _ _; refine O.val (Val.loadAggBox rfl (H.has) (by (repeat (first | exact List.mem_cons_self | refine List.mem_cons_of_mem _ ?_)); first | done | fail) (by exact rfl)) ?_)
          | (show O _ _ _ _ (⟨_, .indexAddr _ _ _, _, _, _, none⟩ :: _) _ _; refine O.val (Val.idxK (by (conv => lhs; whnf); try rfl) rfl (by first | exact hr _ ((H.has).mono (by (repeat (first | exact Sub.refl | exact Sub.nil | refine Sub.mem (by (repeat (first | exact List.mem_cons_self | refine List.mem_cons_of_mem _ ?_)); first | done | fail) ?_ | refine Sub.cons ?_)); first | done | fail)) | exact (H.has).row1 (by (repeat (first | exact List.mem_cons_self | refine List.mem_cons_of_mem _ ?_)); first | done | fail) | exact (H.has).ro (by (repeat (first | exact List.mem_cons_self | refine List.mem_cons_of_mem _ ?_)); first | done | fail) | exact (H.has).rowKm (by (repeat (first | exact List.mem_cons_self | refine List.mem_cons_of_mem _ ?_)); first | done | fail) (by decide)) (by first | omega | assumption | decide | with_reducible exact nself | with_reducible exact rfl)) ?_)
          | (show O _ _ _ _ (⟨_, .store _ _ _, _, _, _, none⟩ :: _) _ _; (refine O.storeAgg rfl rfl (by exact rfl) (by (repeat (first | exact List.forall_mem_nil _ | refine List.forall_mem_cons.2 ⟨(by first | rfl | exact (H.has).one (by (repeat (first | exact List.mem_cons_self | refine List.mem_cons_of_mem _ ?_)); first | done | fail) | exact (H.has).oneRo (by (repeat (first | exact List.mem_cons_self | refine List.mem_cons_of_mem _ ?_)); first | done | fail) | exact (hr _ ((H.has).mono (by (repeat (first | exact Sub.refl | exact Sub.nil | refine Sub.mem (by (repeat (first | exact List.mem_cons_self | refine List.mem_cons_of_mem _ ?_)); first | done | fail) ?_ | refine Sub.cons ?_)); first | done | fail))).one), ?_⟩)); first | done | fail) H (by (repeat (first | exact SetWhole.here rfl | apply SetWhole.there)); first | done | fail) ?_; intro w H))
          | (show C _ _ (.cond _ _ _) _ _ _; refine C.ifT rfl (by first | omega | assumption | with_reducible exact nself | with_reducible exact rfl) ?_)
          )
      rw [hE]
      exact ⟨_, rfl, H.picks (by (repeat (first | exact Picks.refl | (apply Picks.cons; focus ((repeat (first | exact Pull.here | apply Pull.there)); done)) | apply Picks.drop)); first | done | fail)⟩
  · have : i = l.length := by omega
    rw [this, List.drop_length] at hE
    simp only [expF] at hE
    repeat' (first
        | with_reducible refine C.seq ?_
        | with_reducible refine C.region ?_
        | with_reducible refine J.thn ?_
        | with_reducible refine O.nil ?_
        | with_reducible refine C.exit ?_
        | with_reducible refine C.ret ?_
        | with_reducible refine J.thnE ?_
        | with_reducible refine J.blkE ?_
        | with_reducible refine J.bodyR ?_
        | (show O _ _ _ _ (⟨_, .move _, _, _, _, none⟩ :: _) _ _; refine O.val (Val.moveV (by (conv => lhs; whnf); try rfl)) ?_)
        | (show O _ _ _ _ (⟨_, .assign _, _, _, _, none⟩ :: _) _ _; first | refine O.val (Val.assignI rfl) ?_ | refine O.val (Val.assignV (by (conv => lhs; whnf); try rfl)) ?_)
        | (show O _ _ _ _ (⟨_, .binOp .lss _ _ _ _, _, _, _, none⟩ :: _) _ _; refine O.val (Val.lss rfl rfl) ?_)
        | (show O _ _ _ _ (⟨_, .call { callee := .builtin .len, args := _, argTypes := _ }, _, _, _, none⟩ :: _) _ _; refine O.val (Val.len (by (conv => lhs; whnf); try rfl) (by first | exact hr _ ((H.has).mono (by (repeat (first | exact Sub.refl | exact Sub.nil | refine Sub.mem (by (repeat (first | exact List.mem_cons_self | refine List.mem_cons_of_mem _ ?_)); first | done | fail) ?_ | refine Sub.cons ?_)); first | done | fail)) | exact (H.has).row1 (by (repeat (first | exact List.mem_cons_self | refine List.mem_cons_of_mem _ ?_)); first | done | fail) | exact (H.has).ro (by (repeat (first | exact List.mem_cons_self | refine List.mem_cons_of_mem _ ?_)); first | done | fail) | exact (H.has).rowKm (by (repeat (first | exact List.mem_cons_self | refine List.mem_cons_of_mem _ ?_)); first | done | fail) (by decide))) ?_)
        | (show C _ _ (.cond _ _ _) _ _ _; refine C.ifF rfl (by first | omega | assumption | with_reducible exact nself | with_reducible exact rfl) ?_)
        )
    rw [hE]
    exact ⟨_, rfl, H.picks (by (repeat (first | exact Picks.refl | (apply Picks.cons; focus ((repeat (first | exact Pull.here | apply Pull.there)); done)) | apply Picks.drop)); first | done | fail)⟩
theorem rTok_yes {w0 w : World} {L : List Res} {x : TokR} (H : Own w0 w L) (hx : x.ok) :
    Call Try.prog 32 #[.agg (tokV x).toArray] w fun r w' => r = .bool true ∧ Own w0 w' L := by
  refine Call.of (n := 32) (rs := [2]) Try.func32 rfl rfl rfl (by decide) (Nat.le_of_ble_eq_true rfl) ?_
  rcases hx with ⟨h1, h2⟩ | ⟨h1, h2, h3, h4, h5⟩
  · repeat' (first
      | with_reducible refine C.seq ?_
      | with_reducible refine C.region ?_
      | with_reducible refine J.thn ?_
      | with_reducible refine O.nil ?_
      | with_reducible refine C.ret ?_
      | with_reducible refine J.thnR ?_
      | with_reducible refine J.bodyR ?_
      | (show O _ _ _ _ (⟨_, .assign _, _, _, _, none⟩ :: _) _ _; refine O.val (Val.assignB rfl) ?_)
      | (show O _ _ _ _ (⟨_, .binOp .eql _ _ _ _, _, _, _, none⟩ :: _) _ _; refine O.val (Val.eql rfl rfl) ?_)
      | (show O _ _ _ _ (⟨_, .fieldAddr _ _ _, _, _, _, none⟩ :: _) _ _; refine O.val (Val.fieldAddr rfl rfl) ?_)
      | (show O _ _ _ _ (⟨_, .load _ _, _, _, _, none⟩ :: _) _ _; refine O.val (Val.loadBox rfl (H.has) (by (repeat (first | exact List.mem_cons_self | refine List.mem_cons_of_mem _ ?_)); first | done | fail) rfl) ?_)
      | (show O _ _ _ _ (⟨_, .box _ _, _, _, _, none⟩ :: _) _ _; (refine O.boxAgg rfl H ?_; intro b w H))
      | (show C _ _ (.cond _ _ _) _ _ _; refine C.ifT rfl (by first | omega | assumption | with_reducible exact nself | with_reducible exact rfl) ?_)
      )
    exact ⟨congrArg Value.bool (decide_eq_true h2), H.picks (by (repeat (first | exact Picks.refl | (apply Picks.cons; focus ((repeat (first | exact Pull.here | apply Pull.there)); done)) | apply Picks.drop)); first | done | fail)⟩
  · have h5' : ((x.lit : Nat) : Int) = 0 := by omega
    repeat' (first
        | with_reducible refine C.seq ?_
        | with_reducible refine C.region ?_
        | with_reducible refine J.thn ?_
        | with_reducible refine O.nil ?_
        | with_reducible refine C.skip ?_
        | with_reducible refine C.ret ?_
        | with_reducible refine J.bodyR ?_
        | (show O _ _ _ _ (⟨_, .move _, _, _, _, none⟩ :: _) _ _; refine O.val (Val.moveB rfl) ?_)
        | (show O _ _ _ _ (⟨_, .assign _, _, _, _, none⟩ :: _) _ _; refine O.val (Val.assignB rfl) ?_)
        | (show O _ _ _ _ (⟨_, .binOp .leq _ _ _ _, _, _, _, none⟩ :: _) _ _; refine O.val (Val.leq rfl rfl) ?_)
        | (show O _ _ _ _ (⟨_, .binOp .geq _ _ _ _, _, _, _, none⟩ :: _) _ _; refine O.val (Val.geq rfl rfl) ?_)
        | (show O _ _ _ _ (⟨_, .binOp .eql _ _ _ _, _, _, _, none⟩ :: _) _ _; refine O.val (Val.eql rfl rfl) ?_)
        | (show O _ _ _ _ (⟨_, .fieldAddr _ _ _, _, _, _, none⟩ :: _) _ _; refine O.val (Val.fieldAddr rfl rfl) ?_)
        | (show O _ _ _ _ (⟨_, .pick _ _ _, _, _, _, none⟩ :: _) _ _; refine O.val (Val.pickDT rfl (by first | omega | assumption | decide | with_reducible exact nself | with_reducible exact rfl)) ?_)
        | (show O _ _ _ _ (⟨_, .load _ _, _, _, _, none⟩ :: _) _ _; refine O.val (Val.loadBox rfl (H.has) (by (repeat (first | exact List.mem_cons_self | refine List.mem_cons_of_mem _ ?_)); first | done | fail) rfl) ?_)
        | (show O _ _ _ _ (⟨_, _, _, _, _, some _⟩ :: _) _ _; refine O.gT rfl rfl (by first | omega | assumption | with_reducible exact nself | with_reducible exact rfl) rfl ?_)
        | (show O _ _ _ _ (⟨_, .box _ _, _, _, _, none⟩ :: _) _ _; (refine O.boxAgg rfl H ?_; intro b w H))
        | (show C _ _ (.cond _ _ _) _ _ _; refine C.ifF rfl (by first | omega | assumption | with_reducible exact nself | with_reducible exact rfl) ?_)
        )
    exact ⟨congrArg Value.bool (decide_eq_true h5'), H.picks (by (repeat (first | exact Picks.refl | (apply Picks.cons; focus ((repeat (first | exact Pull.here | apply Pull.there)); done)) | apply Picks.drop)); first | done | fail)⟩
theorem rTok_no {w0 w : World} {L : List Res} {x : TokR} (H : Own w0 w L) (hx : ¬ x.ok) :
    Call Try.prog 32 #[.agg (tokV x).toArray] w fun r w' => r = .bool false ∧ Own w0 w' L := by
  refine Call.of (n := 32) (rs := [2]) Try.func32 rfl rfl rfl (by decide) (Nat.le_of_ble_eq_true rfl) ?_
  have hx' : (x.len = 0 ∧ x.dist ≠ 0) ∨ (x.len ≠ 0 ∧ x.len < 3) ∨ (3 ≤ x.len ∧ 258 < x.len) ∨ (3 ≤ x.len ∧ x.len ≤ 258 ∧ x.dist < 1) ∨ (3 ≤ x.len ∧ x.len ≤ 258 ∧ 1 ≤ x.dist ∧ 32768 < x.dist) ∨ (3 ≤ x.len ∧ x.len ≤ 258 ∧ 1 ≤ x.dist ∧ x.dist ≤ 32768 ∧ x.lit ≠ 0) := by
    unfold TokR.ok at hx; omega
  rcases hx' with ⟨h1, h2⟩ | ⟨h1, h2⟩ | ⟨h1, h2⟩ | ⟨h1, h2, h3⟩ | ⟨h1, h2, h3, h4⟩ | ⟨h1, h2, h3, h4, h5⟩
  · repeat' (first
      | with_reducible refine C.seq ?_
      | with_reducible refine C.region ?_
      | with_reducible refine J.thn ?_
      | with_reducible refine O.nil ?_
      | with_reducible refine C.ret ?_
      | with_reducible refine J.thnR ?_
      | with_reducible refine J.bodyR ?_
      | (show O _ _ _ _ (⟨_, .assign _, _, _, _, none⟩ :: _) _ _; refine O.val (Val.assignB rfl) ?_)
      | (show O _ _ _ _ (⟨_, .binOp .eql _ _ _ _, _, _, _, none⟩ :: _) _ _; refine O.val (Val.eql rfl rfl) ?_)
      | (show O _ _ _ _ (⟨_, .fieldAddr _ _ _, _, _, _, none⟩ :: _) _ _; refine O.val (Val.fieldAddr rfl rfl) ?_)
      | (show O _ _ _ _ (⟨_, .load _ _, _, _, _, none⟩ :: _) _ _; refine O.val (Val.loadBox rfl (H.has) (by (repeat (first | exact List.mem_cons_self | refine List.mem_cons_of_mem _ ?_)); first | done | fail) rfl) ?_)
      | (show O _ _ _ _ (⟨_, .box _ _, _, _, _, none⟩ :: _) _ _; (refine O.boxAgg rfl H ?_; intro b w H))
      | (show C _ _ (.cond _ _ _) _ _ _; refine C.ifT rfl (by first | omega | assumption | with_reducible exact nself | with_reducible exact rfl) ?_)
      )
    exact ⟨congrArg Value.bool (decide_eq_false h2), H.picks (by (repeat (first | exact Picks.refl | (apply Picks.cons; focus ((repeat (first | exact Pull.here | apply Pull.there)); done)) | apply Picks.drop)); first | done | fail)⟩
  · repeat' (first
      | with_reducible refine C.seq ?_
      | with_reducible refine C.region ?_
      | with_reducible refine J.thn ?_
      | with_reducible refine O.nil ?_
      | with_reducible refine C.skip ?_
      | with_reducible refine C.ret ?_
      | with_reducible refine J.bodyR ?_
      | (show O _ _ _ _ (⟨_, .move _, _, _, _, none⟩ :: _) _ _; refine O.val (Val.moveB rfl) ?_)
      | (show O _ _ _ _ (⟨_, .assign _, _, _, _, none⟩ :: _) _ _; refine O.val (Val.assignB rfl) ?_)
      | (show O _ _ _ _ (⟨_, .binOp .geq _ _ _ _, _, _, _, none⟩ :: _) _ _; refine O.val (Val.geq rfl rfl) ?_)
      | (show O _ _ _ _ (⟨_, .binOp .eql _ _ _ _, _, _, _, none⟩ :: _) _ _; refine O.val (Val.eql rfl rfl) ?_)
      | (show O _ _ _ _ (⟨_, .fieldAddr _ _ _, _, _, _, none⟩ :: _) _ _; refine O.val (Val.fieldAddr rfl rfl) ?_)
      | (show O _ _ _ _ (⟨_, .pick _ _ _, _, _, _, none⟩ :: _) _ _; first | refine O.val (Val.pickF rfl rfl) ?_ | refine O.val (Val.pickDF rfl (by first | omega | assumption | decide | with_reducible exact nself | with_reducible exact rfl)) ?_)
      | (show O _ _ _ _ (⟨_, .load _ _, _, _, _, none⟩ :: _) _ _; refine O.val (Val.loadBox rfl (H.has) (by (repeat (first | exact List.mem_cons_self | refine List.mem_cons_of_mem _ ?_)); first | done | fail) rfl) ?_)
      | (show O _ _ _ _ (⟨_, _, _, _, _, some _⟩ :: _) _ _; first | refine O.gno rfl rfl rfl ?_ | refine O.sF rfl rfl (by first | omega | assumption | with_reducible exact nself | with_reducible exact rfl) rfl ?_)
      | (show O _ _ _ _ (⟨_, .box _ _, _, _, _, none⟩ :: _) _ _; (refine O.boxAgg rfl H ?_; intro b w H))
      | (show C _ _ (.cond _ _ _) _ _ _; refine C.ifF rfl (by first | omega | assumption | with_reducible exact nself | with_reducible exact rfl) ?_)
      )
    exact ⟨rfl, H.picks (by (repeat (first | exact Picks.refl | (apply Picks.cons; focus ((repeat (first | exact Pull.here | apply Pull.there)); done)) | apply Picks.drop)); first | done | fail)⟩
  · repeat' (first
      | with_reducible refine C.seq ?_
      | with_reducible refine C.region ?_
      | with_reducible refine J.thn ?_
      | with_reducible refine O.nil ?_
      | with_reducible refine C.skip ?_
      | with_reducible refine C.ret ?_
      | with_reducible refine J.bodyR ?_
      | (show O _ _ _ _ (⟨_, .move _, _, _, _, none⟩ :: _) _ _; refine O.val (Val.moveB rfl) ?_)
      | (show O _ _ _ _ (⟨_, .assign _, _, _, _, none⟩ :: _) _ _; refine O.val (Val.assignB rfl) ?_)
      | (show O _ _ _ _ (⟨_, .binOp .leq _ _ _ _, _, _, _, none⟩ :: _) _ _; refine O.val (Val.leq rfl rfl) ?_)
      | (show O _ _ _ _ (⟨_, .binOp .geq _ _ _ _, _, _, _, none⟩ :: _) _ _; refine O.val (Val.geq rfl rfl) ?_)
      | (show O _ _ _ _ (⟨_, .binOp .eql _ _ _ _, _, _, _, none⟩ :: _) _ _; refine O.val (Val.eql rfl rfl) ?_)
      | (show O _ _ _ _ (⟨_, .fieldAddr _ _ _, _, _, _, none⟩ :: _) _ _; refine O.val (Val.fieldAddr rfl rfl) ?_)
      | (show O _ _ _ _ (⟨_, .pick _ _ _, _, _, _, none⟩ :: _) _ _; first | refine O.val (Val.pickF rfl rfl) ?_ | refine O.val (Val.pickDF rfl (by first | omega | assumption | decide | with_reducible exact nself | with_reducible exact rfl)) ?_ | refine O.val (Val.pickDT rfl (by first | omega | assumption | decide | with_reducible exact nself | with_reducible exact rfl)) ?_)
      | (show O _ _ _ _ (⟨_, .load _ _, _, _, _, none⟩ :: _) _ _; refine O.val (Val.loadBox rfl (H.has) (by (repeat (first | exact List.mem_cons_self | refine List.mem_cons_of_mem _ ?_)); first | done | fail) rfl) ?_)
      | (show O _ _ _ _ (⟨_, _, _, _, _, some _⟩ :: _) _ _; first | refine O.gno rfl rfl rfl ?_ | refine O.gT rfl rfl (by first | omega | assumption | with_reducible exact nself | with_reducible exact rfl) rfl ?_ | refine O.sF rfl rfl (by first | omega | assumption | with_reducible exact nself | with_reducible exact rfl) rfl ?_)
      | (show O _ _ _ _ (⟨_, .box _ _, _, _, _, none⟩ :: _) _ _; (refine O.boxAgg rfl H ?_; intro b w H))
      | (show C _ _ (.cond _ _ _) _ _ _; refine C.ifF rfl (by first | omega | assumption | with_reducible exact nself | with_reducible exact rfl) ?_)
      )
    exact ⟨rfl, H.picks (by (repeat (first | exact Picks.refl | (apply Picks.cons; focus ((repeat (first | exact Pull.here | apply Pull.there)); done)) | apply Picks.drop)); first | done | fail)⟩
  · repeat' (first
      | with_reducible refine C.seq ?_
      | with_reducible refine C.region ?_
      | with_reducible refine J.thn ?_
      | with_reducible refine O.nil ?_
      | with_reducible refine C.skip ?_
      | with_reducible refine C.ret ?_
      | with_reducible refine J.bodyR ?_
      | (show O _ _ _ _ (⟨_, .move _, _, _, _, none⟩ :: _) _ _; refine O.val (Val.moveB rfl) ?_)
      | (show O _ _ _ _ (⟨_, .assign _, _, _, _, none⟩ :: _) _ _; refine O.val (Val.assignB rfl) ?_)
      | (show O _ _ _ _ (⟨_, .binOp .leq _ _ _ _, _, _, _, none⟩ :: _) _ _; refine O.val (Val.leq rfl rfl) ?_)
      | (show O _ _ _ _ (⟨_, .binOp .geq _ _ _ _, _, _, _, none⟩ :: _) _ _; refine O.val (Val.geq rfl rfl) ?_)
      | (show O _ _ _ _ (⟨_, .binOp .eql _ _ _ _, _, _, _, none⟩ :: _) _ _; refine O.val (Val.eql rfl rfl) ?_)
      | (show O _ _ _ _ (⟨_, .fieldAddr _ _ _, _, _, _, none⟩ :: _) _ _; refine O.val (Val.fieldAddr rfl rfl) ?_)
      | (show O _ _ _ _ (⟨_, .pick _ _ _, _, _, _, none⟩ :: _) _ _; first | refine O.val (Val.pickF rfl rfl) ?_ | refine O.val (Val.pickDF rfl (by first | omega | assumption | decide | with_reducible exact nself | with_reducible exact rfl)) ?_ | refine O.val (Val.pickDT rfl (by first | omega | assumption | decide | with_reducible exact nself | with_reducible exact rfl)) ?_)
      | (show O _ _ _ _ (⟨_, .load _ _, _, _, _, none⟩ :: _) _ _; refine O.val (Val.loadBox rfl (H.has) (by (repeat (first | exact List.mem_cons_self | refine List.mem_cons_of_mem _ ?_)); first | done | fail) rfl) ?_)
      | (show O _ _ _ _ (⟨_, _, _, _, _, some _⟩ :: _) _ _; first | refine O.gno rfl rfl rfl ?_ | refine O.gT rfl rfl (by first | omega | assumption | with_reducible exact nself | with_reducible exact rfl) rfl ?_ | refine O.sF rfl rfl (by first | omega | assumption | with_reducible exact nself | with_reducible exact rfl) rfl ?_)
      | (show O _ _ _ _ (⟨_, .box _ _, _, _, _, none⟩ :: _) _ _; (refine O.boxAgg rfl H ?_; intro b w H))
      | (show C _ _ (.cond _ _ _) _ _ _; refine C.ifF rfl (by first | omega | assumption | with_reducible exact nself | with_reducible exact rfl) ?_)
      )
    exact ⟨rfl, H.picks (by (repeat (first | exact Picks.refl | (apply Picks.cons; focus ((repeat (first | exact Pull.here | apply Pull.there)); done)) | apply Picks.drop)); first | done | fail)⟩
  · repeat' (first
      | with_reducible refine C.seq ?_
      | with_reducible refine C.region ?_
      | with_reducible refine J.thn ?_
      | with_reducible refine O.nil ?_
      | with_reducible refine C.skip ?_
      | with_reducible refine C.ret ?_
      | with_reducible refine J.bodyR ?_
      | (show O _ _ _ _ (⟨_, .move _, _, _, _, none⟩ :: _) _ _; refine O.val (Val.moveB rfl) ?_)
      | (show O _ _ _ _ (⟨_, .assign _, _, _, _, none⟩ :: _) _ _; refine O.val (Val.assignB rfl) ?_)
      | (show O _ _ _ _ (⟨_, .binOp .leq _ _ _ _, _, _, _, none⟩ :: _) _ _; refine O.val (Val.leq rfl rfl) ?_)
      | (show O _ _ _ _ (⟨_, .binOp .geq _ _ _ _, _, _, _, none⟩ :: _) _ _; refine O.val (Val.geq rfl rfl) ?_)
      | (show O _ _ _ _ (⟨_, .binOp .eql _ _ _ _, _, _, _, none⟩ :: _) _ _; refine O.val (Val.eql rfl rfl) ?_)
      | (show O _ _ _ _ (⟨_, .fieldAddr _ _ _, _, _, _, none⟩ :: _) _ _; refine O.val (Val.fieldAddr rfl rfl) ?_)
      | (show O _ _ _ _ (⟨_, .pick _ _ _, _, _, _, none⟩ :: _) _ _; first | refine O.val (Val.pickDF rfl (by first | omega | assumption | decide | with_reducible exact nself | with_reducible exact rfl)) ?_ | refine O.val (Val.pickDT rfl (by first | omega | assumption | decide | with_reducible exact nself | with_reducible exact rfl)) ?_)
      | (show O _ _ _ _ (⟨_, .load _ _, _, _, _, none⟩ :: _) _ _; refine O.val (Val.loadBox rfl (H.has) (by (repeat (first | exact List.mem_cons_self | refine List.mem_cons_of_mem _ ?_)); first | done | fail) rfl) ?_)
      | (show O _ _ _ _ (⟨_, _, _, _, _, some _⟩ :: _) _ _; first | refine O.gT rfl rfl (by first | omega | assumption | with_reducible exact nself | with_reducible exact rfl) rfl ?_ | refine O.sF rfl rfl (by first | omega | assumption | with_reducible exact nself | with_reducible exact rfl) rfl ?_)
      | (show O _ _ _ _ (⟨_, .box _ _, _, _, _, none⟩ :: _) _ _; (refine O.boxAgg rfl H ?_; intro b w H))
      | (show C _ _ (.cond _ _ _) _ _ _; refine C.ifF rfl (by first | omega | assumption | with_reducible exact nself | with_reducible exact rfl) ?_)
      )
    exact ⟨rfl, H.picks (by (repeat (first | exact Picks.refl | (apply Picks.cons; focus ((repeat (first | exact Pull.here | apply Pull.there)); done)) | apply Picks.drop)); first | done | fail)⟩
  · have h5' : ¬ ((x.lit : Nat) : Int) = 0 := by omega
    repeat' (first
        | with_reducible refine C.seq ?_
        | with_reducible refine C.region ?_
        | with_reducible refine J.thn ?_
        | with_reducible refine O.nil ?_
        | with_reducible refine C.skip ?_
        | with_reducible refine C.ret ?_
        | with_reducible refine J.bodyR ?_
        | (show O _ _ _ _ (⟨_, .move _, _, _, _, none⟩ :: _) _ _; refine O.val (Val.moveB rfl) ?_)
        | (show O _ _ _ _ (⟨_, .assign _, _, _, _, none⟩ :: _) _ _; refine O.val (Val.assignB rfl) ?_)
        | (show O _ _ _ _ (⟨_, .binOp .leq _ _ _ _, _, _, _, none⟩ :: _) _ _; refine O.val (Val.leq rfl rfl) ?_)
        | (show O _ _ _ _ (⟨_, .binOp .geq _ _ _ _, _, _, _, none⟩ :: _) _ _; refine O.val (Val.geq rfl rfl) ?_)
        | (show O _ _ _ _ (⟨_, .binOp .eql _ _ _ _, _, _, _, none⟩ :: _) _ _; refine O.val (Val.eql rfl rfl) ?_)
        | (show O _ _ _ _ (⟨_, .fieldAddr _ _ _, _, _, _, none⟩ :: _) _ _; refine O.val (Val.fieldAddr rfl rfl) ?_)
        | (show O _ _ _ _ (⟨_, .pick _ _ _, _, _, _, none⟩ :: _) _ _; refine O.val (Val.pickDT rfl (by first | omega | assumption | decide | with_reducible exact nself | with_reducible exact rfl)) ?_)
        | (show O _ _ _ _ (⟨_, .load _ _, _, _, _, none⟩ :: _) _ _; refine O.val (Val.loadBox rfl (H.has) (by (repeat (first | exact List.mem_cons_self | refine List.mem_cons_of_mem _ ?_)); first | done | fail) rfl) ?_)
        | (show O _ _ _ _ (⟨_, _, _, _, _, some _⟩ :: _) _ _; refine O.gT rfl rfl (by first | omega | assumption | with_reducible exact nself | with_reducible exact rfl) rfl ?_)
        | (show O _ _ _ _ (⟨_, .box _ _, _, _, _, none⟩ :: _) _ _; (refine O.boxAgg rfl H ?_; intro b w H))
        | (show C _ _ (.cond _ _ _) _ _ _; refine C.ifF rfl (by first | omega | assumption | with_reducible exact nself | with_reducible exact rfl) ?_)
        )
    exact ⟨congrArg Value.bool (decide_eq_false h5'), H.picks (by (repeat (first | exact Picks.refl | (apply Picks.cons; focus ((repeat (first | exact Pull.here | apply Pull.there)); done)) | apply Picks.drop)); first | done | fail)⟩
end Go.Proofs.Ytcibdcfdchpnpaa.X
