/- The law LzCopies, walked. Nothing is assumed. -/
import Derived.Test.YtcibdcfdchpnpaaLzAw
import Derived.Test.YtcibdcfdchpnpaaLzOk
namespace Go.Proofs.Ytcibdcfdchpnpaa.X
open Go Go.RowKit
set_option linter.unusedSimpArgs false
set_option linter.unusedVariables false
set_option maxRecDepth 100000
theorem copyB_old (b : List Nat) (d : Nat) : ∀ (k j : Nat), j < b.length → (copyB b d k).getD j 0 = b.getD j 0
  | 0, j, _ => rfl
  | k + 1, j, h => by
    have hl := copyB_len b d k
    simp only [copyB]
    rw [List.getD_eq_getElem?_getD, List.getElem?_append_left (by omega), ← List.getD_eq_getElem?_getD]
    exact copyB_old b d k j h
theorem copyB_new (b : List Nat) (d : Nat) (hd : 1 ≤ d) : ∀ (k j : Nat), b.length ≤ j → j < b.length + k → d ≤ j → (copyB b d k).getD j 0 = (copyB b d k).getD (j - d) 0
  | 0, j, h1, h2, _ => by omega
  | k + 1, j, h1, h2, hdj => by
    have hl := copyB_len b d k
    simp only [copyB]
    have hlow : ∀ i, i < (copyB b d k).length → (copyB b d k ++ [(copyB b d k).getD ((copyB b d k).length - d) 0]).getD i 0 = (copyB b d k).getD i 0 := fun i hi => by
      rw [List.getD_eq_getElem?_getD, List.getElem?_append_left hi, ← List.getD_eq_getElem?_getD]
    by_cases hj : j < b.length + k
    · rw [hlow j (by omega), hlow (j - d) (by omega)]
      exact copyB_new b d hd k j h1 hj hdj
    · have hje : j = (copyB b d k).length := by omega
      rw [hlow (j - d) (by omega), hje]
      simp [List.getD]
theorem copyB_take (b : List Nat) (d : Nat) : ∀ k, (copyB b d k).take b.length = b
  | 0 => by simp [copyB]
  | k + 1 => by
    have hl := copyB_len b d k
    simp only [copyB]
    rw [List.take_append_of_le_length (by omega)]
    exact copyB_take b d k
set_option maxHeartbeats 4000000 in
theorem copiesLaw_call {w0 w : World} {bv : Value} {bs : List Nat} {z y : Int} (H : Own w0 w []) (hr : Rd1 w0 [] bv (nat_ .u8) bs) (hb : Bytes bs) :
    Call Try.prog 9 #[bv, .int .i64 z, .int .i64 y] w fun r w' => r = .bool true ∧ Own w0 w' [] := by
  refine Call.of (n := 120) (rs := [6]) Try.func9 rfl rfl rfl (by decide) (Nat.le_of_ble_eq_true rfl) ?_
  have hl := (hr _ (H.has.mono (by (repeat (first | exact Sub.refl | exact Sub.nil | refine Sub.mem (by (repeat (first | exact List.mem_cons_self | refine List.mem_cons_of_mem _ ?_)); first | done | fail) ?_ | refine Sub.cons ?_)); first | done | fail))).len_le
  simp only [maxLen] at hl
  by_cases h0 : bs.length = 0
  · repeat' (first
      | with_reducible refine C.seq ?_
      | with_reducible refine C.region ?_
      | with_reducible refine J.thn ?_
      | with_reducible refine O.nil ?_
      | with_reducible refine C.ret ?_
      | with_reducible refine J.thnR ?_
      | with_reducible refine J.bodyR ?_
      | (show O _ _ _ _ (⟨_, .call { callee := .value (.func 29), args := _, argTypes := _ }, _, _, _, none⟩ :: _) _ _; refine O.call rfl (awakeL_call H) ?_; rintro _ w ⟨rfl, H⟩)
      | (show O _ _ _ _ (⟨_, .move _, _, _, _, none⟩ :: _) _ _; first | refine O.val (Val.moveB rfl) ?_ | refine O.val (Val.moveV (by (conv => lhs; whnf); try rfl)) ?_)
      | (show O _ _ _ _ (⟨_, .assign _, _, _, _, none⟩ :: _) _ _; refine O.val (Val.assignB rfl) ?_)
      | (show O _ _ _ _ (⟨_, .binOp .eql _ _ _ _, _, _, _, none⟩ :: _) _ _; refine O.val (Val.eql rfl rfl) ?_)
      | (show O _ _ _ _ (⟨_, .pick _ _ _, _, _, _, none⟩ :: _) _ _; refine O.val (Val.pickDT rfl (by first | omega | assumption | decide | with_reducible exact nself | with_reducible exact rfl)) ?_)
      | (show O _ _ _ _ (⟨_, .call { callee := .builtin .len, args := _, argTypes := _ }, _, _, _, none⟩ :: _) _ _; refine O.val (Val.len (by (conv => lhs; whnf); try rfl) (by first | exact hr _ ((H.has).mono (by (repeat (first | exact Sub.refl | exact Sub.nil | refine Sub.mem (by (repeat (first | exact List.mem_cons_self | refine List.mem_cons_of_mem _ ?_)); first | done | fail) ?_ | refine Sub.cons ?_)); first | done | fail)) | exact (H.has).row1 (by (repeat (first | exact List.mem_cons_self | refine List.mem_cons_of_mem _ ?_)); first | done | fail) | exact (H.has).ro (by (repeat (first | exact List.mem_cons_self | refine List.mem_cons_of_mem _ ?_)); first | done | fail))) ?_)
      | (show O _ _ _ _ (⟨_, _, _, _, _, some _⟩ :: _) _ _; refine O.sT rfl rfl (by first | omega | assumption | with_reducible exact nself | with_reducible exact rfl) rfl ?_)
      | (show C _ _ (.cond _ _ _) _ _ _; with_reducible refine C.condT rfl rfl ?_)
      )
    exact ⟨rfl, H⟩
  by_cases h300 : 300 < bs.length
  · repeat' (first
      | with_reducible refine C.seq ?_
      | with_reducible refine C.region ?_
      | with_reducible refine J.thn ?_
      | with_reducible refine O.nil ?_
      | with_reducible refine C.ret ?_
      | with_reducible refine J.thnR ?_
      | with_reducible refine J.bodyR ?_
      | (show O _ _ _ _ (⟨_, .call { callee := .value (.func 29), args := _, argTypes := _ }, _, _, _, none⟩ :: _) _ _; refine O.call rfl (awakeL_call H) ?_; rintro _ w ⟨rfl, H⟩)
      | (show O _ _ _ _ (⟨_, .move _, _, _, _, none⟩ :: _) _ _; first | refine O.val (Val.moveB rfl) ?_ | refine O.val (Val.moveV (by (conv => lhs; whnf); try rfl)) ?_)
      | (show O _ _ _ _ (⟨_, .assign _, _, _, _, none⟩ :: _) _ _; refine O.val (Val.assignB rfl) ?_)
      | (show O _ _ _ _ (⟨_, .binOp .gtr _ _ _ _, _, _, _, none⟩ :: _) _ _; refine O.val (Val.gtr rfl rfl) ?_)
      | (show O _ _ _ _ (⟨_, .binOp .eql _ _ _ _, _, _, _, none⟩ :: _) _ _; refine O.val (Val.eql rfl rfl) ?_)
      | (show O _ _ _ _ (⟨_, .pick _ _ _, _, _, _, none⟩ :: _) _ _; refine O.val (Val.pickDF rfl (by first | omega | assumption | decide | with_reducible exact nself | with_reducible exact rfl)) ?_)
      | (show O _ _ _ _ (⟨_, .call { callee := .builtin .len, args := _, argTypes := _ }, _, _, _, none⟩ :: _) _ _; refine O.val (Val.len (by (conv => lhs; whnf); try rfl) (by first | exact hr _ ((H.has).mono (by (repeat (first | exact Sub.refl | exact Sub.nil | refine Sub.mem (by (repeat (first | exact List.mem_cons_self | refine List.mem_cons_of_mem _ ?_)); first | done | fail) ?_ | refine Sub.cons ?_)); first | done | fail)) | exact (H.has).row1 (by (repeat (first | exact List.mem_cons_self | refine List.mem_cons_of_mem _ ?_)); first | done | fail) | exact (H.has).ro (by (repeat (first | exact List.mem_cons_self | refine List.mem_cons_of_mem _ ?_)); first | done | fail))) ?_)
      | (show O _ _ _ _ (⟨_, _, _, _, _, some _⟩ :: _) _ _; refine O.gF rfl rfl (by first | omega | assumption | with_reducible exact nself | with_reducible exact rfl) rfl ?_)
      | (show C _ _ (.cond _ _ _) _ _ _; refine C.ifT rfl (by first | omega | assumption | with_reducible exact nself | with_reducible exact rfl) ?_)
      )
    exact ⟨rfl, H⟩
  obtain ⟨n, hn⟩ : ∃ n, n = lowM z 256 + 3 := ⟨_, rfl⟩
  obtain ⟨d, hd⟩ : ∃ d, d = lowM y 65536 % bs.length + 1 := ⟨_, rfl⟩
  have hz256 := lowM_lt z (show 0 < 256 by decide)
  have hdm := Nat.mod_lt (lowM y 65536) (show 0 < bs.length by omega)
  have hn1 : 3 ≤ n ∧ n ≤ 258 := by omega
  have hd1 : 1 ≤ d ∧ d ≤ bs.length := by omega
  have en : Value.int .i64 ((lowM z 256 + 3 : Nat) : Int) = .int .i64 (n : Int) := by rw [hn]
  have ed : Value.int .i64 ((lowM y 65536 % bs.length + 1 : Nat) : Int) = .int .i64 (d : Int) := by rw [hd]
  have hokd := ok_copy (n := n) (d := d) (by omega) (by omega)
  have hokf := ok_copy (n := n) (d := bs.length + 1) (by omega) (by omega)
  have hz1 : (10000 : Int).toNat = 10000 := rfl
  have he1 : putE bs.length ⟨n, d, 0⟩ (10000 : Int).toNat = 0 := putE_ok hokd (show (d : Int) ≤ bs.length by omega) (show max (n : Int) 1 ≤ ((10000 : Int).toNat : Int) - bs.length by omega)
  have hp : putB bs ⟨n, d, 0⟩ = copyB bs d n := putB_copy bs (by omega)
  have hcl := copyB_len bs d n
  have hct := copyB_take bs d n
  have he2 : putE bs.length ⟨n, ((bs.length + 1 : Nat) : Int), 0⟩ (10000 : Int).toNat = 4 := putE_far hokf (show (bs.length : Int) < ((bs.length + 1 : Nat) : Int) by omega)
  have he3 : putE bs.length ⟨n, d, 0⟩ (((bs.length + n - 1 : Nat) : Int)).toNat = 5 := putE_much hokd (show (d : Int) ≤ bs.length by omega) (show ((((bs.length + n - 1 : Nat) : Int)).toNat : Int) - bs.length < max (n : Int) 1 by omega)
  have hs1 : ¬ (bst (((copyB bs d n).drop 0).take (bs.length - 0)) ≠ bst bs) := by
    rw [List.drop_zero, Nat.sub_zero, hct]; exact nself
  repeat' (first
      | with_reducible refine C.seq ?_
      | with_reducible refine C.region ?_
      | with_reducible refine C.block ?_
      | with_reducible refine J.thn ?_
      | with_reducible refine O.nil ?_
      | with_reducible refine C.skip ?_
      | (show C _ _ (.region 3 _ true) _ _ _; refine C.drawnAll [6] (.take 0 (.take 1 (.take 2 (.take 3 (.take 4 (.take 5 (.takeS 6 (.take 7 (.take 8 (.take 9 (.take 10 .done))))))))))) (by kernel_rfl) (by (repeat (first | with_reducible exact NoPan.body | with_reducible exact NoPan.endS | with_reducible refine NoPan.thn ?_ | with_reducible refine NoPan.blk ?_)); first | done | fail) H ?_; intro w H hS)
      | (show DT _ _ _ _ _ _ (⟨some 26, .binOp .add _ _ _ _, _, _, _, none⟩) _ _ _; refine DT.val (fun _ => Val.as (Val.addL rfl rfl (by omega)) en) ?_)
      | (show DT _ _ _ _ _ _ (⟨some 32, .binOp .add _ _ _ _, _, _, _, none⟩) _ _ _; refine DT.val (fun _ => Val.as (Val.addL rfl rfl (by omega)) ed) ?_)
      | (show O _ _ _ _ (⟨some 40, .call { callee := .value (.func 28), args := _, argTypes := _ }, _, _, _, none⟩ :: _) _ _; refine O.call rfl (lzPut_yes (x := ⟨n, d, 0⟩) (z := 10000) H (hr.mono (by (repeat (first | exact Sub.refl | exact Sub.nil | refine Sub.mem (by (repeat (first | exact List.mem_cons_self | refine List.mem_cons_of_mem _ ?_)); first | done | fail) ?_ | refine Sub.cons ?_)); first | done | fail)) (by omega) (by decide) he1) ?_; rintro _ w ⟨o, rfl, H⟩; rw [hp] at H; have hcut : Rd1 w0 (row1 o 5 (nat_ .u8) (copyB bs d n) :: []) (subs o 1 0 bs.length) (nat_ .u8) (((copyB bs d n).drop 0).take (bs.length - 0)) := Rd1.subs (Rd.row1 List.mem_cons_self) (by omega) (by omega))
      | (show O _ _ _ _ (⟨_, .move _, _, _, _, none⟩ :: _) _ _; first | refine O.val (Val.moveI rfl) ?_ | refine O.val (Val.moveB rfl) ?_ | refine O.val (Val.moveV (by (conv => lhs; whnf); try rfl)) ?_)
      | (show O _ _ _ _ (⟨_, .assign _, _, _, _, none⟩ :: _) _ _; first | refine O.val (Val.assignI rfl) ?_ | refine O.val (Val.assignB rfl) ?_ | refine O.val (Val.assignV (by (conv => lhs; whnf); try rfl)) ?_)
      | (show O _ _ _ _ (⟨_, .binOp .gtr _ _ _ _, _, _, _, none⟩ :: _) _ _; refine O.val (Val.gtr rfl rfl) ?_)
      | (show O _ _ _ _ (⟨_, .binOp .eql _ _ _ _, _, _, _, none⟩ :: _) _ _; refine O.val (Val.eql rfl rfl) ?_)
      | (show O _ _ _ _ (⟨_, .binOp .neq _ _ _ _, _, _, _, none⟩ :: _) _ _; first | refine O.val (Val.neq rfl rfl) ?_ | refine O.val (Val.neqS rfl rfl) ?_)
      | (show O _ _ _ _ (⟨_, .binOp .add _ _ _ _, _, _, _, none⟩ :: _) _ _; refine O.val (Val.addN rfl rfl (by first | omega | assumption | decide | with_reducible exact nself | with_reducible exact rfl)) ?_)
      | (show O _ _ _ _ (⟨_, .extract _ _, _, _, _, none⟩ :: _) _ _; refine O.val (Val.extract rfl rfl) ?_)
      | (show O _ _ _ _ (⟨_, .build _ _, _, _, _, none⟩ :: _) _ _; refine O.val (Val.buildF (by (repeat (first | exact Fields.nil | (apply Fields.one; (conv => lhs; whnf); (exact (by first | rfl | exact (H.has).one (by (repeat (first | exact List.mem_cons_self | refine List.mem_cons_of_mem _ ?_)); first | done | fail) | exact (H.has).oneRo (by (repeat (first | exact List.mem_cons_self | refine List.mem_cons_of_mem _ ?_)); first | done | fail) | exact (hr _ ((H.has).mono (by (repeat (first | exact Sub.refl | exact Sub.nil | refine Sub.mem (by (repeat (first | exact List.mem_cons_self | refine List.mem_cons_of_mem _ ?_)); first | done | fail) ?_ | refine Sub.cons ?_)); first | done | fail))).one | exact (hcut _ ((H.has).mono (by (repeat (first | exact Sub.refl | exact Sub.nil | refine Sub.mem (by (repeat (first | exact List.mem_cons_self | refine List.mem_cons_of_mem _ ?_)); first | done | fail) ?_ | refine Sub.cons ?_)); first | done | fail))).one))))); first | done | fail) (by (conv => lhs; simp only [fillG, List.getElem?_cons_zero, List.getElem?_cons_succ, List.length_cons, List.length_nil, List.take_succ_cons, List.take_zero, List.drop_succ_cons, List.drop_zero, List.nil_append, List.cons_append, List.append_nil, Nat.reduceAdd, Nat.reduceLeDiff, Nat.zero_add, and_self, and_true, true_and, if_true, Nat.le_refl]); try exact rfl)) ?_)
      | (show O _ _ _ _ (⟨_, .pick _ _ _, _, _, _, none⟩ :: _) _ _; first | refine O.val (Val.pickF rfl rfl) ?_ | refine O.val (Val.pickDF rfl (by first | omega | assumption | decide | with_reducible exact nself | with_reducible exact rfl)) ?_)
      | (show O _ _ _ _ (⟨_, .convert _ _ _, _, _, _, none⟩ :: _) _ _; refine O.val (Val.toStr (by (conv => lhs; whnf); try rfl) (by first | exact hr _ ((H.has).mono (by (repeat (first | exact Sub.refl | exact Sub.nil | refine Sub.mem (by (repeat (first | exact List.mem_cons_self | refine List.mem_cons_of_mem _ ?_)); first | done | fail) ?_ | refine Sub.cons ?_)); first | done | fail)) | exact hcut _ ((H.has).mono (by (repeat (first | exact Sub.refl | exact Sub.nil | refine Sub.mem (by (repeat (first | exact List.mem_cons_self | refine List.mem_cons_of_mem _ ?_)); first | done | fail) ?_ | refine Sub.cons ?_)); first | done | fail)) | exact (H.has).row1 (by (repeat (first | exact List.mem_cons_self | refine List.mem_cons_of_mem _ ?_)); first | done | fail) | exact (H.has).ro (by (repeat (first | exact List.mem_cons_self | refine List.mem_cons_of_mem _ ?_)); first | done | fail))) ?_)
      | (show O _ _ _ _ (⟨_, .slice _ _ none (some _) none, _, _, _, none⟩ :: _) _ _; refine O.val (Val.cutHi (by (conv => lhs; whnf); try rfl) rfl (by first | exact hr _ ((H.has).mono (by (repeat (first | exact Sub.refl | exact Sub.nil | refine Sub.mem (by (repeat (first | exact List.mem_cons_self | refine List.mem_cons_of_mem _ ?_)); first | done | fail) ?_ | refine Sub.cons ?_)); first | done | fail)) | exact hcut _ ((H.has).mono (by (repeat (first | exact Sub.refl | exact Sub.nil | refine Sub.mem (by (repeat (first | exact List.mem_cons_self | refine List.mem_cons_of_mem _ ?_)); first | done | fail) ?_ | refine Sub.cons ?_)); first | done | fail)) | exact (H.has).row1 (by (repeat (first | exact List.mem_cons_self | refine List.mem_cons_of_mem _ ?_)); first | done | fail) | exact (H.has).ro (by (repeat (first | exact List.mem_cons_self | refine List.mem_cons_of_mem _ ?_)); first | done | fail)) (by first | omega | assumption | decide | with_reducible exact nself | with_reducible exact rfl) (by first | omega | assumption | decide | with_reducible exact nself | with_reducible exact rfl)) ?_)
      | (show O _ _ _ _ (⟨_, .call { callee := .builtin .len, args := _, argTypes := _ }, _, _, _, none⟩ :: _) _ _; refine O.val (Val.len (by (conv => lhs; whnf); try rfl) (by first | exact hr _ ((H.has).mono (by (repeat (first | exact Sub.refl | exact Sub.nil | refine Sub.mem (by (repeat (first | exact List.mem_cons_self | refine List.mem_cons_of_mem _ ?_)); first | done | fail) ?_ | refine Sub.cons ?_)); first | done | fail)) | exact hcut _ ((H.has).mono (by (repeat (first | exact Sub.refl | exact Sub.nil | refine Sub.mem (by (repeat (first | exact List.mem_cons_self | refine List.mem_cons_of_mem _ ?_)); first | done | fail) ?_ | refine Sub.cons ?_)); first | done | fail)) | exact (H.has).row1 (by (repeat (first | exact List.mem_cons_self | refine List.mem_cons_of_mem _ ?_)); first | done | fail) | exact (H.has).ro (by (repeat (first | exact List.mem_cons_self | refine List.mem_cons_of_mem _ ?_)); first | done | fail))) ?_)
      | (show O _ _ _ _ (⟨_, _, _, _, _, some _⟩ :: _) _ _; first | refine O.gyes rfl rfl rfl ?_ | refine O.gF rfl rfl (by first | omega | assumption | with_reducible exact nself | with_reducible exact rfl) rfl ?_)
      | (show C _ _ (.cond _ _ _) _ _ _; refine C.ifF rfl (by first | omega | assumption | with_reducible exact nself | with_reducible exact rfl) ?_)
      | with_reducible refine D.done ?_
      | refine D.take rfl ?_
      | refine D.takeS rfl ?_
      | (show DT _ _ _ _ _ _ ⟨_, .move _, _, _, _, none⟩ _ _ _; first | refine DT.val (fun _ => Val.moveI rfl) ?_ | refine DT.val (fun _ => Val.moveV (by (conv => lhs; whnf); try rfl)) ?_)
      | (show DT _ _ _ _ _ _ ⟨_, .assign _, _, _, _, none⟩ _ _ _; refine DT.val (fun _ => Val.assignI rfl) ?_)
      | (show DT _ _ _ _ _ _ ⟨_, .binOp .rem _ _ _ _, _, _, _, none⟩ _ _ _; refine DT.val (fun _ => Val.remN rfl rfl (by first | omega | assumption | decide | with_reducible exact nself | with_reducible exact rfl)) ?_)
      | (show DT _ _ _ _ _ _ ⟨_, .binOp .and _ _ _ _, _, _, _, none⟩ _ _ _; first | refine DT.val (fun _ => Val.maskI 8 256 rfl rfl (by exact rfl) (by decide) (by decide)) ?_ | refine DT.val (fun _ => Val.maskI 16 65536 rfl rfl (by exact rfl) (by decide) (by decide)) ?_)
      | (show DS _ _ _ _ _ _ ⟨_, .call { callee := .builtin .len, args := _, argTypes := _ }, _, _, _, none⟩ _ _ _; refine DS.val (by first | exact hS | exact H.has.mono (by (repeat (first | exact Sub.refl | exact Sub.nil | refine Sub.mem (by (repeat (first | exact List.mem_cons_self | refine List.mem_cons_of_mem _ ?_)); first | done | fail) ?_ | refine Sub.cons ?_)); first | done | fail)) (fun _ hS => Val.len (by (conv => lhs; whnf); try rfl) (by first | exact hr _ ((hS).mono (by (repeat (first | exact Sub.refl | exact Sub.nil | refine Sub.mem (by (repeat (first | exact List.mem_cons_self | refine List.mem_cons_of_mem _ ?_)); first | done | fail) ?_ | refine Sub.cons ?_)); first | done | fail)) | exact hcut _ ((hS).mono (by (repeat (first | exact Sub.refl | exact Sub.nil | refine Sub.mem (by (repeat (first | exact List.mem_cons_self | refine List.mem_cons_of_mem _ ?_)); first | done | fail) ?_ | refine Sub.cons ?_)); first | done | fail)) | exact (hS).row1 (by (repeat (first | exact List.mem_cons_self | refine List.mem_cons_of_mem _ ?_)); first | done | fail) | exact (hS).ro (by (repeat (first | exact List.mem_cons_self | refine List.mem_cons_of_mem _ ?_)); first | done | fail))) ?_)
      )
  refine C.loopS (fun i : Nat => [(0, bv), (1, .int .i64 (n : Int)), (2, .int .i64 (d : Int)), (8, o), (10, .int .i64 ((i : Nat) : Int))]) (fun m i w => Own w0 w (row1 o 5 (nat_ .u8) (copyB bs d n) :: []) ∧ bs.length ≤ i ∧ i ≤ bs.length + n ∧ m = bs.length + n - i) n bs.length ⟨H.picks (by (repeat (first | exact Picks.refl | (apply Picks.cons; focus ((repeat (first | exact Pull.here | apply Pull.there)); done)) | apply Picks.drop)); first | done | fail), by omega, by omega, by omega⟩ ⟨rfl, rfl, rfl, rfl, rfl, trivial⟩ ?_
  rintro m i e w ⟨H, hi1, hi2, rfl⟩
  by_cases hin : i < bs.length + n
  · have hcn := copyB_new bs d hd1.1 n i hi1 hin (by omega)
    have hne : ¬ ((((copyB bs d n).getD i 0 : Nat) : Int) ≠ (((copyB bs d n).getD (i - d) 0 : Nat) : Int)) := by rw [hcn]; exact nself
    repeat' (first
        | with_reducible refine C.seq ?_
        | with_reducible refine C.region ?_
        | with_reducible refine C.block ?_
        | with_reducible refine J.thn ?_
        | with_reducible refine O.nil ?_
        | with_reducible refine J.blkN ?_
        | with_reducible refine C.skip ?_
        | (show C _ _ (.region 11 _ true) _ _ _; refine C.drawnAll [2, 3, 8, 9] (.take 0 (.take 1 (.takeS 2 (.takeS 3 (.take 4 (.take 5 (.take 6 (.take 7 (.takeS 8 (.takeS 9 (.take 10 .done))))))))))) (by kernel_rfl) (by (repeat (first | with_reducible exact NoPan.body | with_reducible exact NoPan.endS | with_reducible refine NoPan.thn ?_ | with_reducible refine NoPan.blk ?_)); first | done | fail) H ?_; intro w H hS)
        | (show O _ _ _ _ (⟨_, .binOp .add _ _ (.const _) _, _, _, _, none⟩ :: _) _ _; refine O.val (Val.addL rfl rfl (by first | omega | assumption | decide | with_reducible exact nself | with_reducible exact rfl)) ?_)
        | (show O _ _ _ _ (⟨_, .move _, _, _, _, none⟩ :: _) _ _; first | refine O.val (Val.moveI rfl) ?_ | refine O.val (Val.moveV (by (conv => lhs; whnf); try rfl)) ?_)
        | (show O _ _ _ _ (⟨_, .assign _, _, _, _, none⟩ :: _) _ _; refine O.val (Val.assignI rfl) ?_)
        | (show O _ _ _ _ (⟨_, .binOp .lss _ _ _ _, _, _, _, none⟩ :: _) _ _; refine O.val (Val.lss rfl rfl) ?_)
        | (show O _ _ _ _ (⟨_, .call { callee := .builtin .len, args := _, argTypes := _ }, _, _, _, none⟩ :: _) _ _; refine O.val (Val.len (by (conv => lhs; whnf); try rfl) (by first | exact hr _ ((H.has).mono (by (repeat (first | exact Sub.refl | exact Sub.nil | refine Sub.mem (by (repeat (first | exact List.mem_cons_self | refine List.mem_cons_of_mem _ ?_)); first | done | fail) ?_ | refine Sub.cons ?_)); first | done | fail)) | exact (H.has).row1 (by (repeat (first | exact List.mem_cons_self | refine List.mem_cons_of_mem _ ?_)); first | done | fail) | exact (H.has).ro (by (repeat (first | exact List.mem_cons_self | refine List.mem_cons_of_mem _ ?_)); first | done | fail))) ?_)
        | (show C _ _ (.cond _ _ _) _ _ _; first | refine C.ifT rfl (by first | omega | assumption | with_reducible exact nself | with_reducible exact rfl) ?_ | refine C.ifF rfl (by first | omega | assumption | with_reducible exact nself | with_reducible exact rfl) ?_)
        | with_reducible refine D.done ?_
        | refine D.take rfl ?_
        | refine D.takeS rfl ?_
        | (show DT _ _ _ _ _ _ ⟨_, .move _, _, _, _, none⟩ _ _ _; first | refine DT.val (fun _ => Val.moveI rfl) ?_ | refine DT.val (fun _ => Val.moveV (by (conv => lhs; whnf); try rfl)) ?_)
        | (show DT _ _ _ _ _ _ ⟨_, .binOp .neq _ _ _ _, _, _, _, none⟩ _ _ _; refine DT.val (fun _ => Val.neq rfl rfl) ?_)
        | (show DT _ _ _ _ _ _ ⟨_, .binOp .sub _ _ _ _, _, _, _, none⟩ _ _ _; refine DT.val (fun _ => Val.subN rfl rfl (by first | omega | assumption | decide | with_reducible exact nself | with_reducible exact rfl)) ?_)
        | (show DS _ _ _ _ _ _ ⟨_, .load _ _, _, _, _, none⟩ _ _ _; refine DS.val (by first | exact hS | exact H.has.mono (by (repeat (first | exact Sub.refl | exact Sub.nil | refine Sub.mem (by (repeat (first | exact List.mem_cons_self | refine List.mem_cons_of_mem _ ?_)); first | done | fail) ?_ | refine Sub.cons ?_)); first | done | fail)) (fun _ hS => Val.loadAtN rfl (by first | exact hr _ ((hS).mono (by (repeat (first | exact Sub.refl | exact Sub.nil | refine Sub.mem (by (repeat (first | exact List.mem_cons_self | refine List.mem_cons_of_mem _ ?_)); first | done | fail) ?_ | refine Sub.cons ?_)); first | done | fail)) | exact (hS).row1 (by (repeat (first | exact List.mem_cons_self | refine List.mem_cons_of_mem _ ?_)); first | done | fail) | exact (hS).ro (by (repeat (first | exact List.mem_cons_self | refine List.mem_cons_of_mem _ ?_)); first | done | fail)) (by first | omega | assumption | decide | with_reducible exact nself | with_reducible exact rfl)) ?_)
        | (show DS _ _ _ _ _ _ ⟨_, .indexAddr _ _ _, _, _, _, none⟩ _ _ _; refine DS.val (by first | exact hS | exact H.has.mono (by (repeat (first | exact Sub.refl | exact Sub.nil | refine Sub.mem (by (repeat (first | exact List.mem_cons_self | refine List.mem_cons_of_mem _ ?_)); first | done | fail) ?_ | refine Sub.cons ?_)); first | done | fail)) (fun _ hS => Val.idx1 (by (conv => lhs; whnf); try rfl) rfl (by first | exact hr _ ((hS).mono (by (repeat (first | exact Sub.refl | exact Sub.nil | refine Sub.mem (by (repeat (first | exact List.mem_cons_self | refine List.mem_cons_of_mem _ ?_)); first | done | fail) ?_ | refine Sub.cons ?_)); first | done | fail)) | exact (hS).row1 (by (repeat (first | exact List.mem_cons_self | refine List.mem_cons_of_mem _ ?_)); first | done | fail) | exact (hS).ro (by (repeat (first | exact List.mem_cons_self | refine List.mem_cons_of_mem _ ?_)); first | done | fail)) (by first | omega | assumption | decide | with_reducible exact nself | with_reducible exact rfl)) ?_)
        )
    exact ⟨bs.length + n - (i + 1), i + 1, by omega, ⟨H.picks (by (repeat (first | exact Picks.refl | (apply Picks.cons; focus ((repeat (first | exact Pull.here | apply Pull.there)); done)) | apply Picks.drop)); first | done | fail), by omega, by omega, rfl⟩, ⟨rfl, rfl, rfl, rfl, rfl, trivial⟩⟩
  · repeat' (first
      | with_reducible refine C.seq ?_
      | with_reducible refine C.region ?_
      | with_reducible refine J.thn ?_
      | with_reducible refine O.nil ?_
      | with_reducible refine C.exit ?_
      | with_reducible refine C.ret ?_
      | with_reducible refine J.thnE ?_
      | with_reducible refine J.blkE ?_
      | with_reducible refine J.bodyR ?_
      | (show O _ _ _ _ (⟨some 95, .call { callee := .value (.func 28), args := _, argTypes := _ }, _, _, _, none⟩ :: _) _ _; refine O.call rfl (lzPut_no (x := ⟨n, ((bs.length + 1 : Nat) : Int), 0⟩) (z := 10000) H (hr.mono (by (repeat (first | exact Sub.refl | exact Sub.nil | refine Sub.mem (by (repeat (first | exact List.mem_cons_self | refine List.mem_cons_of_mem _ ?_)); first | done | fail) ?_ | refine Sub.cons ?_)); first | done | fail)) (by omega) (by decide) (by rw [he2]; decide)) ?_; rintro _ w ⟨rfl, H⟩; rw [he2])
      | (show O _ _ _ _ (⟨some 108, .call { callee := .value (.func 28), args := _, argTypes := _ }, _, _, _, none⟩ :: _) _ _; refine O.call rfl (lzPut_no (x := ⟨n, d, 0⟩) (z := ((bs.length + n - 1 : Nat) : Int)) H (hr.mono (by (repeat (first | exact Sub.refl | exact Sub.nil | refine Sub.mem (by (repeat (first | exact List.mem_cons_self | refine List.mem_cons_of_mem _ ?_)); first | done | fail) ?_ | refine Sub.cons ?_)); first | done | fail)) (by omega) (by omega) (by rw [he3]; decide)) ?_; rintro _ w ⟨rfl, H⟩; rw [he3])
      | (show O _ _ _ _ (⟨_, .call { callee := .value (.func 29), args := _, argTypes := _ }, _, _, _, none⟩ :: _) _ _; refine O.call rfl (awakeL_call H) ?_; rintro _ w ⟨rfl, H⟩)
      | (show O _ _ _ _ (⟨_, .binOp .add _ _ (.const _) _, _, _, _, none⟩ :: _) _ _; refine O.val (Val.addL rfl rfl (by first | omega | assumption | decide | with_reducible exact nself | with_reducible exact rfl)) ?_)
      | (show O _ _ _ _ (⟨_, .binOp .sub _ _ (.const _) _, _, _, _, none⟩ :: _) _ _; refine O.val (Val.subL rfl rfl (by first | omega | assumption | decide | with_reducible exact nself | with_reducible exact rfl)) ?_)
      | (show O _ _ _ _ (⟨_, .move _, _, _, _, none⟩ :: _) _ _; first | refine O.val (Val.moveI rfl) ?_ | refine O.val (Val.moveB rfl) ?_ | refine O.val (Val.moveV (by (conv => lhs; whnf); try rfl)) ?_)
      | (show O _ _ _ _ (⟨_, .assign _, _, _, _, none⟩ :: _) _ _; first | refine O.val (Val.assignI rfl) ?_ | refine O.val (Val.assignB rfl) ?_ | refine O.val (Val.assignV (by (conv => lhs; whnf); try rfl)) ?_)
      | (show O _ _ _ _ (⟨_, .binOp .lss _ _ _ _, _, _, _, none⟩ :: _) _ _; refine O.val (Val.lss rfl rfl) ?_)
      | (show O _ _ _ _ (⟨_, .binOp .eql _ _ _ _, _, _, _, none⟩ :: _) _ _; refine O.val (Val.eql rfl rfl) ?_)
      | (show O _ _ _ _ (⟨_, .binOp .add _ _ _ _, _, _, _, none⟩ :: _) _ _; refine O.val (Val.addN rfl rfl (by first | omega | assumption | decide | with_reducible exact nself | with_reducible exact rfl)) ?_)
      | (show O _ _ _ _ (⟨_, .extract _ _, _, _, _, none⟩ :: _) _ _; refine O.val (Val.extract rfl rfl) ?_)
      | (show O _ _ _ _ (⟨_, .build _ _, _, _, _, none⟩ :: _) _ _; refine O.val (Val.buildF (by (repeat (first | exact Fields.nil | (apply Fields.one; (conv => lhs; whnf); (exact (by first | rfl | exact (H.has).one (by (repeat (first | exact List.mem_cons_self | refine List.mem_cons_of_mem _ ?_)); first | done | fail) | exact (H.has).oneRo (by (repeat (first | exact List.mem_cons_self | refine List.mem_cons_of_mem _ ?_)); first | done | fail) | exact (hr _ ((H.has).mono (by (repeat (first | exact Sub.refl | exact Sub.nil | refine Sub.mem (by (repeat (first | exact List.mem_cons_self | refine List.mem_cons_of_mem _ ?_)); first | done | fail) ?_ | refine Sub.cons ?_)); first | done | fail))).one))))); first | done | fail) (by (conv => lhs; simp only [fillG, List.getElem?_cons_zero, List.getElem?_cons_succ, List.length_cons, List.length_nil, List.take_succ_cons, List.take_zero, List.drop_succ_cons, List.drop_zero, List.nil_append, List.cons_append, List.append_nil, Nat.reduceAdd, Nat.reduceLeDiff, Nat.zero_add, and_self, and_true, true_and, if_true, Nat.le_refl]); try exact rfl)) ?_)
      | (show O _ _ _ _ (⟨_, .pick _ _ _, _, _, _, none⟩ :: _) _ _; refine O.val (Val.pickT rfl rfl) ?_)
      | (show O _ _ _ _ (⟨_, .call { callee := .builtin .len, args := _, argTypes := _ }, _, _, _, none⟩ :: _) _ _; refine O.val (Val.len (by (conv => lhs; whnf); try rfl) (by first | exact hr _ ((H.has).mono (by (repeat (first | exact Sub.refl | exact Sub.nil | refine Sub.mem (by (repeat (first | exact List.mem_cons_self | refine List.mem_cons_of_mem _ ?_)); first | done | fail) ?_ | refine Sub.cons ?_)); first | done | fail)) | exact (H.has).row1 (by (repeat (first | exact List.mem_cons_self | refine List.mem_cons_of_mem _ ?_)); first | done | fail) | exact (H.has).ro (by (repeat (first | exact List.mem_cons_self | refine List.mem_cons_of_mem _ ?_)); first | done | fail))) ?_)
      | (show O _ _ _ _ (⟨_, _, _, _, _, some _⟩ :: _) _ _; refine O.gyes rfl rfl rfl ?_)
      | (show C _ _ (.cond _ _ _) _ _ _; refine C.ifF rfl (by first | omega | assumption | with_reducible exact nself | with_reducible exact rfl) ?_)
      )
    exact ⟨rfl, H.picks (by (repeat (first | exact Picks.refl | (apply Picks.cons; focus ((repeat (first | exact Pull.here | apply Pull.there)); done)) | apply Picks.drop)); first | done | fail)⟩
end Go.Proofs.Ytcibdcfdchpnpaa.X
