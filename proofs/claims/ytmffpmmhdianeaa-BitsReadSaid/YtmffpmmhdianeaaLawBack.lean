/- The law BitsBack, walked. Nothing is assumed. -/
import Derived.Test.YtmffpmmhdianeaaRev
import Derived.Test.YtmffpmmhdianeaaRecOp
namespace Go.Proofs.Ytmffpmmhdianeaa.X
open Go Go.RowKit
set_option linter.unusedSimpArgs false
set_option linter.unusedVariables false
/-- How many bits an operation puts. -/
def wd (x : OpR) : Nat := lowM x.n 256 % 33
theorem wd_le (x : OpR) : wd x ≤ 32 := by unfold wd; omega
/-- The bits behind so many operations: the number that they are, how many. -/
def stN (ops : List OpR) : Nat → Nat × Nat
  | 0 => (0, 0)
  | i + 1 => ((stN ops i).1 + ((ops.getD i default).v % 2 ^ wd (ops.getD i default)) * 2 ^ (stN ops i).2, (stN ops i).2 + wd (ops.getD i default))
theorem stN_lt (ops : List OpR) : ∀ i, (stN ops i).1 < 2 ^ (stN ops i).2
  | 0 => by simp [stN]
  | i + 1 => by
    have h := stN_lt ops i
    simp only [stN]
    have hm := Nat.mod_lt (ops.getD i default).v (Nat.pow_pos (n := wd (ops.getD i default)) (show 0 < 2 by decide))
    rw [Nat.pow_add]
    calc (stN ops i).1 + _ % 2 ^ wd (ops.getD i default) * 2 ^ (stN ops i).2 < 2 ^ (stN ops i).2 + _ % 2 ^ wd (ops.getD i default) * 2 ^ (stN ops i).2 := Nat.add_lt_add_right h _
      _ = (_ % 2 ^ wd (ops.getD i default) + 1) * 2 ^ (stN ops i).2 := by rw [Nat.add_mul]; omega
      _ ≤ 2 ^ wd (ops.getD i default) * 2 ^ (stN ops i).2 := Nat.mul_le_mul_right _ hm
      _ = 2 ^ (stN ops i).2 * 2 ^ wd (ops.getD i default) := Nat.mul_comm _ _
theorem stN_le (ops : List OpR) : ∀ i, (stN ops i).2 ≤ 32 * i
  | 0 => by simp [stN]
  | i + 1 => by have := stN_le ops i; have := wd_le (ops.getD i default); simp only [stN]; omega
theorem stN_more (ops : List OpR) (i : Nat) : ∀ k, ∃ M, (stN ops (i + k)).1 = (stN ops i).1 + 2 ^ (stN ops i).2 * M ∧ (stN ops i).2 ≤ (stN ops (i + k)).2
  | 0 => ⟨0, by simp⟩
  | k + 1 => by
    obtain ⟨M, h1, h2⟩ := stN_more ops i k
    obtain ⟨d, hd⟩ := Nat.exists_eq_add_of_le h2
    refine ⟨M + (ops.getD (i + k) default).v % 2 ^ wd (ops.getD (i + k) default) * 2 ^ d, ?_, ?_⟩
    · show (stN ops (i + k)).1 + _ * 2 ^ (stN ops (i + k)).2 = _
      rw [h1, hd, Nat.pow_add, Nat.mul_add, Nat.add_assoc, Nat.mul_left_comm]; rfl
    · show (stN ops i).2 ≤ (stN ops (i + k)).2 + _; omega
theorem stN_cut (ops : List OpR) {i k : Nat} (h : i < k) : cutN (stN ops k).1 (stN ops i).2 (wd (ops.getD i default)) = (ops.getD i default).v % 2 ^ wd (ops.getD i default) := by
  obtain ⟨d, rfl⟩ := Nat.exists_eq_add_of_lt h
  obtain ⟨M, h1, _⟩ := stN_more ops (i + 1) d
  rw [show i + d + 1 = i + 1 + d from by omega, h1]
  unfold cutN
  simp only [stN]
  have hlt := stN_lt ops i
  have hm := Nat.mod_lt (ops.getD i default).v (Nat.pow_pos (n := wd (ops.getD i default)) (show 0 < 2 by decide))
  rw [Nat.shiftRight_eq_div_pow, Nat.pow_add, Nat.add_assoc, Nat.mul_assoc, Nat.mul_comm _ (2 ^ (stN ops i).2), ← Nat.mul_add, Nat.add_mul_div_left _ _ (Nat.pow_pos (by decide)), Nat.div_eq_of_lt hlt, Nat.zero_add, Nat.add_mul_mod_self_left, Nat.mod_mod]
theorem revTo_bit (x : Nat) : ∀ (k j : Nat), k ≤ 32 → (revTo x k).testBit j = (decide (j < k) && x.testBit (k - 1 - j))
  | 0, j, _ => by simp [revTo]
  | k + 1, j, hk => by
    have h32 : IntKind.u32.bits = 32 := rfl
    simp only [revTo, Nat.testBit_or, Nat.testBit_mod_two_pow, Nat.testBit_shiftLeft, Nat.testBit_and, Nat.testBit_shiftRight, h32]
    cases j with
    | zero => simp
    | succ j =>
      have h1 : (1 : Nat).testBit (j + 1) = false := by rw [Nat.testBit_succ]; simp
      rw [h1, Nat.add_sub_cancel, revTo_bit x k j (by omega)]
      by_cases hj : j < k
      · have a : j + 1 < 32 := by omega
        have b : k - (j + 1) = k - 1 - j := by omega
        simp [hj, a, b]
      · simp [hj]
theorem revTo_twice {x k : Nat} (hk : k ≤ 32) (h : x < 2 ^ k) : revTo (revTo x k) k = x := by
  apply Nat.eq_of_testBit_eq
  intro j
  rw [revTo_bit _ k j hk, revTo_bit x k _ hk]
  by_cases hj : j < k
  · have a : k - 1 - j < k := by omega
    have b : k - 1 - (k - 1 - j) = j := by omega
    simp [hj, a, b]
  · have : x.testBit j = false := Nat.testBit_lt_two_pow (Nat.lt_of_lt_of_le h (Nat.pow_le_pow_right (by decide) (by omega)))
    simp [hj, this]
theorem ones_pos {n : Nat} (hn : n ≤ 32) : 1 ≤ (1 <<< n) % 2 ^ IntKind.u64.bits := by
  have h1 : 1 <<< n = 2 ^ n := by rw [Nat.shiftLeft_eq, Nat.one_mul]
  have h2 : 2 ^ n ≤ 2 ^ 32 := Nat.pow_le_pow_right (by decide) hn
  have h3 : (2 : Nat) ^ 32 < 2 ^ IntKind.u64.bits := by decide
  have h4 : 0 < 2 ^ n := Nat.pow_pos (by decide)
  rw [h1, Nat.mod_eq_of_lt (by omega)]; exact h4
theorem ones_fits (n : Nat) : Fits .u64 ((1 <<< n) % 2 ^ IntKind.u64.bits - 1) := Nat.lt_of_le_of_lt (Nat.sub_le _ _) (Fits.modU rfl)
set_option maxHeartbeats 2000000 in
set_option maxRecDepth 100000 in
theorem backLaw_call {w0 w : World} {lv : Value} {ops : List OpR} (H : Own w0 w []) (hr : RdK w0 [] lv 3 opV ops) (hv : ∀ x ∈ ops, OpOk x) :
    Call Try.prog 10 #[lv] w fun r w' => r = .bool true ∧ Own w0 w' [] := by
  refine Call.of (n := 102) (rs := [2]) Try.func10 rfl rfl rfl (by decide) (Nat.le_of_ble_eq_true rfl) ?_
  have hl := (hr _ (H.has.mono (by (repeat (first | exact Sub.refl | exact Sub.nil | refine Sub.mem (by (repeat (first | exact List.mem_cons_self | refine List.mem_cons_of_mem _ ?_)); first | done | fail) ?_ | refine Sub.cons ?_)); first | done | fail))).len_le
  simp only [maxLen] at hl
  repeat' (first
      | with_reducible refine C.seq ?_
      | with_reducible refine C.region ?_
      | with_reducible refine C.block ?_
      | with_reducible refine J.thn ?_
      | with_reducible refine O.nil ?_
      | with_reducible refine C.skip ?_
      | (show O _ _ _ _ (⟨_, .call { callee := .value (.func 29), args := _, argTypes := _ }, _, _, _, none⟩ :: _) _ _; refine O.call rfl (newWriter_call H) ?_; rintro _ w ⟨p, rfl, H⟩)
      | (show O _ _ _ _ (⟨_, .move _, _, _, _, none⟩ :: _) _ _; refine O.val (Val.moveP rfl) ?_)
      | (show O _ _ _ _ (⟨_, .assign _, _, _, _, none⟩ :: _) _ _; first | refine O.val (Val.assignI rfl) ?_ | refine O.val (Val.assignB rfl) ?_ | refine O.val (Val.assignP rfl) ?_)
      | (show O _ _ _ _ (⟨_, .binOp .eql _ _ _ _, _, _, _, none⟩ :: _) _ _; refine O.val (Val.eqlNilP rfl rfl) ?_)
      | (show C _ _ (.cond _ _ _) _ _ _; with_reducible refine C.condF rfl rfl ?_)
      )
  have hok : ∀ i, i < ops.length → OpOk (ops.getD i default) := fun i hi => hv _ (by simp [List.getD, hi])
  obtain ⟨c, hc⟩ : ∃ c, c = min ops.length 60 := ⟨_, rfl⟩
  refine C.loopS (fun s : Nat × Value × List Nat => [(0, lv), (3, .pointer (some ⟨p, 0, none⟩)), (4, .int .i64 ((s.1 : Nat) : Int))]) (fun m s w => Own w0 w (wrtL p s.2.1 s.2.2 (stN ops s.1).2 []) ∧ Bits s.2.2 (stN ops s.1).1 (stN ops s.1).2 ∧ s.1 ≤ c ∧ m = c - s.1) c (0, .slice none 0 0, []) ⟨H.picks (by (repeat (first | exact Picks.refl | (apply Picks.cons; focus ((repeat (first | exact Pull.here | apply Pull.there)); done)) | apply Picks.drop)); first | done | fail), Bits.nil, by omega, by omega⟩ ⟨rfl, rfl, rfl, trivial⟩ ?_
  rintro m ⟨i, bv, W⟩ e w ⟨H, hB, hi, rfl⟩
  simp only at H hB hi
  have hn := stN_le ops i
  by_cases hic : i < c
  · have hov := (hok i (by omega)).v
    have hwd := wd_le (ops.getD i default)
    repeat' (first
        | with_reducible refine C.seq ?_
        | with_reducible refine C.region ?_
        | with_reducible refine C.block ?_
        | with_reducible refine J.thn ?_
        | with_reducible refine O.nil ?_
        | with_reducible refine J.blkN ?_
        | with_reducible refine C.skip ?_
        | (show O _ _ _ _ (⟨_, .call { callee := .value (.func 30), args := _, argTypes := _ }, _, _, _, none⟩ :: _) _ _; refine O.call rfl (put_yes (k := wd (ops.getD i default)) H hB (by omega) hwd hov) ?_; rintro _ w ⟨rfl, bv, W, hB, H⟩)
        | (show O _ _ _ _ (⟨_, .binOp .add _ _ (.const _) _, _, _, _, none⟩ :: _) _ _; refine O.val (Val.addL rfl rfl (by first | omega | assumption | decide | with_reducible exact nself | with_reducible exact rfl)) ?_)
        | (show O _ _ _ _ (⟨_, .binOp .rem _ _ (.const _) _, _, _, _, none⟩ :: _) _ _; refine O.val (Val.remL rfl rfl (by first | omega | assumption | decide | with_reducible exact nself | with_reducible exact rfl)) ?_)
        | (show O _ _ _ _ (⟨_, .move _, _, _, _, none⟩ :: _) _ _; first | refine O.val (Val.moveI rfl) ?_ | refine O.val (Val.moveB rfl) ?_ | refine O.val (Val.moveP rfl) ?_ | refine O.val (Val.moveV (by (conv => lhs; whnf); try rfl)) ?_)
        | (show O _ _ _ _ (⟨_, .assign _, _, _, _, none⟩ :: _) _ _; refine O.val (Val.assignI rfl) ?_)
        | (show O _ _ _ _ (⟨_, .binOp .lss _ _ _ _, _, _, _, none⟩ :: _) _ _; refine O.val (Val.lss rfl rfl) ?_)
        | (show O _ _ _ _ (⟨_, .binOp .and _ _ _ _, _, _, _, none⟩ :: _) _ _; refine O.val (Val.maskI 8 256 rfl rfl (by exact rfl) (by decide) (by decide)) ?_)
        | (show O _ _ _ _ (⟨_, .unOp .not _ _, _, _, _, none⟩ :: _) _ _; refine O.val (Val.notB rfl) ?_)
        | (show O _ _ _ _ (⟨_, .fieldAddr _ _ _, _, _, _, none⟩ :: _) _ _; refine O.val (Val.fieldAt rfl (by first | assumption | exact RdC.nonnil (by first | exact hr _ ((H.has).mono (by (repeat (first | exact Sub.refl | exact Sub.nil | refine Sub.mem (by (repeat (first | exact List.mem_cons_self | refine List.mem_cons_of_mem _ ?_)); first | done | fail) ?_ | refine Sub.cons ?_)); first | done | fail)) | exact (H.has).row1 (by (repeat (first | exact List.mem_cons_self | refine List.mem_cons_of_mem _ ?_)); first | done | fail) | exact (H.has).ro (by (repeat (first | exact List.mem_cons_self | refine List.mem_cons_of_mem _ ?_)); first | done | fail)) (by first | omega | assumption | decide | with_reducible exact nself | with_reducible exact rfl))) ?_)
        | (show O _ _ _ _ (⟨_, .pick _ _ _, _, _, _, none⟩ :: _) _ _; refine O.val (Val.pickDT rfl (by first | omega | assumption | decide | with_reducible exact nself | with_reducible exact rfl)) ?_)
        | (show O _ _ _ _ (⟨_, .load _ _, _, _, _, none⟩ :: _) _ _; refine O.val (Val.loadK default rfl (by first | exact hr _ ((H.has).mono (by (repeat (first | exact Sub.refl | exact Sub.nil | refine Sub.mem (by (repeat (first | exact List.mem_cons_self | refine List.mem_cons_of_mem _ ?_)); first | done | fail) ?_ | refine Sub.cons ?_)); first | done | fail)) | exact (H.has).row1 (by (repeat (first | exact List.mem_cons_self | refine List.mem_cons_of_mem _ ?_)); first | done | fail) | exact (H.has).ro (by (repeat (first | exact List.mem_cons_self | refine List.mem_cons_of_mem _ ?_)); first | done | fail)) (by first | omega | assumption | decide | with_reducible exact nself | with_reducible exact rfl) rfl) ?_)
        | (show O _ _ _ _ (⟨_, .indexAddr _ _ _, _, _, _, none⟩ :: _) _ _; refine O.val (Val.idxK (by (conv => lhs; whnf); try rfl) rfl (by first | exact hr _ ((H.has).mono (by (repeat (first | exact Sub.refl | exact Sub.nil | refine Sub.mem (by (repeat (first | exact List.mem_cons_self | refine List.mem_cons_of_mem _ ?_)); first | done | fail) ?_ | refine Sub.cons ?_)); first | done | fail)) | exact (H.has).row1 (by (repeat (first | exact List.mem_cons_self | refine List.mem_cons_of_mem _ ?_)); first | done | fail) | exact (H.has).ro (by (repeat (first | exact List.mem_cons_self | refine List.mem_cons_of_mem _ ?_)); first | done | fail)) (by first | omega | assumption | decide | with_reducible exact nself | with_reducible exact rfl)) ?_)
        | (show O _ _ _ _ (⟨_, .call { callee := .builtin .len, args := _, argTypes := _ }, _, _, _, none⟩ :: _) _ _; refine O.val (Val.len (by (conv => lhs; whnf); try rfl) (by first | exact hr _ ((H.has).mono (by (repeat (first | exact Sub.refl | exact Sub.nil | refine Sub.mem (by (repeat (first | exact List.mem_cons_self | refine List.mem_cons_of_mem _ ?_)); first | done | fail) ?_ | refine Sub.cons ?_)); first | done | fail)) | exact (H.has).row1 (by (repeat (first | exact List.mem_cons_self | refine List.mem_cons_of_mem _ ?_)); first | done | fail) | exact (H.has).ro (by (repeat (first | exact List.mem_cons_self | refine List.mem_cons_of_mem _ ?_)); first | done | fail))) ?_)
        | (show O _ _ _ _ (⟨_, _, _, _, _, some _⟩ :: _) _ _; refine O.gT rfl rfl (by first | omega | assumption | with_reducible exact nself | with_reducible exact rfl) rfl ?_)
        | (show C _ _ (.cond _ _ _) _ _ _; first | with_reducible refine C.condF rfl rfl ?_ | refine C.ifT rfl (by first | omega | assumption | with_reducible exact nself | with_reducible exact rfl) ?_)
        )
    exact ⟨c - (i + 1), (i + 1, _, _), by show c - (i + 1) < c - i; omega, ⟨H, hB, hic, rfl⟩, ⟨rfl, rfl, rfl, trivial⟩⟩
  have hcl : i = c := by omega
  have hbytes : W.length ≤ 1000000 := by have := hB.len; omega
  have hbl : 8 * W.length = (stN ops i).2 + (8 * W.length - (stN ops i).2) := by have := hB.len; omega
  have hslack : 8 * W.length - (stN ops i).2 < 8 := by have := hB.len; omega
  have hsz : (stN ops i).2 ≤ 8 * W.length := by omega
  have hend : (i < ops.length ∧ i = 60) ∨ (i = ops.length ∧ i ≤ 60) := by omega
  rcases hend with hend | hend
  all_goals
    repeat' (first
        | with_reducible refine C.seq ?_
        | with_reducible refine C.region ?_
        | with_reducible refine C.block ?_
        | with_reducible refine J.thn ?_
        | with_reducible refine O.nil ?_
        | with_reducible refine C.skip ?_
        | with_reducible refine C.exit ?_
        | with_reducible refine J.thnE ?_
        | with_reducible refine J.blkE ?_
        | (show O _ _ _ _ (⟨_, .call { callee := .value (.func 31), args := _, argTypes := _ }, _, _, _, none⟩ :: _) _ _; refine O.call rfl (wrBytes_call H hbytes) ?_; rintro wb w H)
        | (show O _ _ _ _ (⟨_, .call { callee := .value (.func 25), args := _, argTypes := _ }, _, _, _, none⟩ :: _) _ _; refine O.call rfl (newReader_call H (Rd.row1 (by (repeat (first | exact List.mem_cons_self | refine List.mem_cons_of_mem _ ?_)); first | done | fail)) hbytes) ?_; rintro _ w ⟨q, rb, rfl, H⟩)
        | (show O _ _ _ _ (⟨_, .move _, _, _, _, none⟩ :: _) _ _; first | refine O.val (Val.moveI rfl) ?_ | refine O.val (Val.moveB rfl) ?_ | refine O.val (Val.moveP rfl) ?_ | refine O.val (Val.moveV (by (conv => lhs; whnf); try rfl)) ?_)
        | (show O _ _ _ _ (⟨_, .assign _, _, _, _, none⟩ :: _) _ _; first | refine O.val (Val.assignI rfl) ?_ | refine O.val (Val.assignP rfl) ?_)
        | (show O _ _ _ _ (⟨_, .binOp .lss _ _ _ _, _, _, _, none⟩ :: _) _ _; refine O.val (Val.lss rfl rfl) ?_)
        | (show O _ _ _ _ (⟨_, .binOp .eql _ _ _ _, _, _, _, none⟩ :: _) _ _; refine O.val (Val.eqlNilP rfl rfl) ?_)
        | (show O _ _ _ _ (⟨_, .pick _ _ _, _, _, _, none⟩ :: _) _ _; first | refine O.val (Val.pickDF rfl (by first | omega | assumption | decide | with_reducible exact nself | with_reducible exact rfl)) ?_ | refine O.val (Val.pickDT rfl (by first | omega | assumption | decide | with_reducible exact nself | with_reducible exact rfl)) ?_)
        | (show O _ _ _ _ (⟨_, .call { callee := .builtin .len, args := _, argTypes := _ }, _, _, _, none⟩ :: _) _ _; refine O.val (Val.len (by (conv => lhs; whnf); try rfl) (by first | exact hr _ ((H.has).mono (by (repeat (first | exact Sub.refl | exact Sub.nil | refine Sub.mem (by (repeat (first | exact List.mem_cons_self | refine List.mem_cons_of_mem _ ?_)); first | done | fail) ?_ | refine Sub.cons ?_)); first | done | fail)) | exact (H.has).row1 (by (repeat (first | exact List.mem_cons_self | refine List.mem_cons_of_mem _ ?_)); first | done | fail) | exact (H.has).ro (by (repeat (first | exact List.mem_cons_self | refine List.mem_cons_of_mem _ ?_)); first | done | fail))) ?_)
        | (show O _ _ _ _ (⟨_, _, _, _, _, some _⟩ :: _) _ _; first | refine O.gT rfl rfl (by first | omega | assumption | with_reducible exact nself | with_reducible exact rfl) rfl ?_ | refine O.sF rfl rfl (by first | omega | assumption | with_reducible exact nself | with_reducible exact rfl) rfl ?_)
        | (show C _ _ (.cond _ _ _) _ _ _; first | with_reducible refine C.condF rfl rfl ?_ | refine C.ifF rfl (by first | omega | assumption | with_reducible exact nself | with_reducible exact rfl) ?_)
        )
    refine C.loopS (fun s : Nat => [(0, lv), (6, .pointer (some ⟨q, 0, none⟩)), (7, .int .i64 ((s : Nat) : Int))]) (fun m s w => Own w0 w (rdrL q rb W (stN ops s).2 []) ∧ s ≤ c ∧ m = c - s) c 0 ⟨H.picks (by (repeat (first | exact Picks.refl | (apply Picks.cons; focus ((repeat (first | exact Pull.here | apply Pull.there)); done)) | apply Picks.drop)); first | done | fail), by omega, by omega⟩ ⟨rfl, rfl, rfl, trivial⟩ ?_
    rintro m j e w ⟨H, hj, rfl⟩
    have hmono : ∀ a b, a ≤ b → (stN ops a).2 ≤ (stN ops b).2 := fun a b hab => by
      obtain ⟨d, rfl⟩ := Nat.exists_eq_add_of_le hab
      obtain ⟨_, _, h⟩ := stN_more ops a d
      exact h
    by_cases hjc : j < c
    · have hov := (hok j (by omega)).v
      have hov64 : Fits .u64 (ops.getD j default).v := Nat.lt_of_lt_of_le hov (by decide)
      have hwd := wd_le (ops.getD j default)
      have hnext := hmono (j + 1) i (by omega)
      have hcut := stN_cut ops (i := j) (k := i) (by omega)
      rw [← hB.num] at hcut
      have hlt := Nat.mod_lt (ops.getD j default).v (Nat.pow_pos (n := wd (ops.getD j default)) (show 0 < 2 by decide))
      have hf : Fits .u32 ((ops.getD j default).v % 2 ^ wd (ops.getD j default)) := Nat.lt_of_le_of_lt (Nat.mod_le _ _) hov
      have htw := revTo_twice hwd hlt
      have hrf := revTo_fits hf (wd (ops.getD j default))
      have h1n := ones_pos hwd
      have hf2 := ones_fits (wd (ops.getD j default))
      have hmask := mask_num (ops.getD j default).v hwd
      have hmask2 : (ops.getD j default).v &&& ((1 <<< wd (ops.getD j default)) % 2 ^ IntKind.u64.bits - 1) = (ops.getD j default).v % 2 ^ wd (ops.getD j default) := by
        rw [← hmask, Nat.mod_eq_of_lt (show _ < 2 ^ IntKind.u32.bits from Fits.and hov)]
      have hne : ¬ ((((ops.getD j default).v % 2 ^ wd (ops.getD j default) : Nat) : Int) ≠ ((((ops.getD j default).v &&& ((1 <<< wd (ops.getD j default)) % 2 ^ IntKind.u64.bits - 1)) : Nat) : Int)) := by rw [hmask2]; exact fun h => h rfl
      repeat' (first
          | with_reducible refine C.seq ?_
          | with_reducible refine C.region ?_
          | with_reducible refine C.block ?_
          | with_reducible refine J.thn ?_
          | with_reducible refine O.nil ?_
          | with_reducible refine J.blkN ?_
          | with_reducible refine C.skip ?_
          | (show C _ _ (.region 18 _ true) _ _ _; refine C.drawnAll [2, 4, 5, 10] (.take 0 (.take 1 (.takeS 2 (.take 3 (.takeS 4 (.takeS 5 (.take 6 (.take 7 (.take 8 (.take 9 (.takeS 10 (.take 11 .done)))))))))))) (by kernel_rfl) (by (repeat (first | with_reducible exact NoPan.body | with_reducible exact NoPan.endS | with_reducible refine NoPan.thn ?_ | with_reducible refine NoPan.blk ?_)); first | done | fail) H ?_; intro w H hS)
          | (show O _ _ _ _ (⟨_, .call { callee := .value (.func 26), args := _, argTypes := _ }, _, _, _, none⟩ :: _) _ _; refine O.call rfl (take_yes (n := wd (ops.getD j default)) H hB.bytes hbytes (by simp only [stN] at hnext; omega) hwd) ?_; rintro _ w ⟨rfl, H⟩; rw [hcut])
          | (show O _ _ _ _ (⟨_, .call { callee := .value (.func 32), args := _, argTypes := _ }, _, _, _, none⟩ :: _) _ _; refine O.call rfl (rev_call (k := wd (ops.getD j default)) H hf hwd) ?_; rintro _ w ⟨rfl, H⟩)
          | (show O _ _ _ _ (⟨_, .call { callee := .value (.func 32), args := _, argTypes := _ }, _, _, _, none⟩ :: _) _ _; refine O.call rfl (rev_call (k := wd (ops.getD j default)) H hrf hwd) ?_; rintro _ w ⟨rfl, H⟩; rw [htw])
          | (show O _ _ _ _ (⟨_, .binOp .add _ _ (.const _) _, _, _, _, none⟩ :: _) _ _; refine O.val (Val.addL rfl rfl (by first | omega | assumption | decide | with_reducible exact nself | with_reducible exact rfl)) ?_)
          | (show O _ _ _ _ (⟨_, .binOp .rem _ _ (.const _) _, _, _, _, none⟩ :: _) _ _; refine O.val (Val.remL rfl rfl (by first | omega | assumption | decide | with_reducible exact nself | with_reducible exact rfl)) ?_)
          | (show O _ _ _ _ (⟨_, .move _, _, _, _, none⟩ :: _) _ _; first | refine O.val (Val.moveI rfl) ?_ | refine O.val (Val.moveB rfl) ?_ | refine O.val (Val.moveP rfl) ?_ | refine O.val (Val.moveV (by (conv => lhs; whnf); try rfl)) ?_)
          | (show O _ _ _ _ (⟨_, .assign _, _, _, _, none⟩ :: _) _ _; first | refine O.val (Val.assignI rfl) ?_ | refine O.val (Val.assignB rfl) ?_)
          | (show O _ _ _ _ (⟨_, .binOp .lss _ _ _ _, _, _, _, none⟩ :: _) _ _; refine O.val (Val.lss rfl rfl) ?_)
          | (show O _ _ _ _ (⟨_, .binOp .neq _ _ _ _, _, _, _, none⟩ :: _) _ _; refine O.val (Val.neq rfl rfl) ?_)
          | (show O _ _ _ _ (⟨_, .binOp .and _ _ _ _, _, _, _, none⟩ :: _) _ _; refine O.val (Val.maskI 8 256 rfl rfl (by exact rfl) (by decide) (by decide)) ?_)
          | (show O _ _ _ _ (⟨_, .unOp .not _ _, _, _, _, none⟩ :: _) _ _; refine O.val (Val.notB rfl) ?_)
          | (show O _ _ _ _ (⟨_, .fieldAddr _ _ _, _, _, _, none⟩ :: _) _ _; refine O.val (Val.fieldAt rfl (by first | assumption | exact RdC.nonnil (by first | exact hr _ ((H.has).mono (by (repeat (first | exact Sub.refl | exact Sub.nil | refine Sub.mem (by (repeat (first | exact List.mem_cons_self | refine List.mem_cons_of_mem _ ?_)); first | done | fail) ?_ | refine Sub.cons ?_)); first | done | fail)) | exact (H.has).row1 (by (repeat (first | exact List.mem_cons_self | refine List.mem_cons_of_mem _ ?_)); first | done | fail) | exact (H.has).ro (by (repeat (first | exact List.mem_cons_self | refine List.mem_cons_of_mem _ ?_)); first | done | fail)) (by first | omega | assumption | decide | with_reducible exact nself | with_reducible exact rfl))) ?_)
          | (show O _ _ _ _ (⟨_, .extract _ _, _, _, _, none⟩ :: _) _ _; refine O.val (Val.extract rfl rfl) ?_)
          | (show O _ _ _ _ (⟨_, .pick _ _ _, _, _, _, none⟩ :: _) _ _; first | refine O.val (Val.pickF rfl rfl) ?_ | refine O.val (Val.pickDF rfl (by first | omega | assumption | decide | with_reducible exact nself | with_reducible exact rfl)) ?_ | refine O.val (Val.pickDT rfl (by first | omega | assumption | decide | with_reducible exact nself | with_reducible exact rfl)) ?_)
          | (show O _ _ _ _ (⟨_, .load _ _, _, _, _, none⟩ :: _) _ _; refine O.val (Val.loadK default rfl (by first | exact hr _ ((H.has).mono (by (repeat (first | exact Sub.refl | exact Sub.nil | refine Sub.mem (by (repeat (first | exact List.mem_cons_self | refine List.mem_cons_of_mem _ ?_)); first | done | fail) ?_ | refine Sub.cons ?_)); first | done | fail)) | exact (H.has).row1 (by (repeat (first | exact List.mem_cons_self | refine List.mem_cons_of_mem _ ?_)); first | done | fail) | exact (H.has).ro (by (repeat (first | exact List.mem_cons_self | refine List.mem_cons_of_mem _ ?_)); first | done | fail)) (by first | omega | assumption | decide | with_reducible exact nself | with_reducible exact rfl) rfl) ?_)
          | (show O _ _ _ _ (⟨_, .indexAddr _ _ _, _, _, _, none⟩ :: _) _ _; refine O.val (Val.idxK (by (conv => lhs; whnf); try rfl) rfl (by first | exact hr _ ((H.has).mono (by (repeat (first | exact Sub.refl | exact Sub.nil | refine Sub.mem (by (repeat (first | exact List.mem_cons_self | refine List.mem_cons_of_mem _ ?_)); first | done | fail) ?_ | refine Sub.cons ?_)); first | done | fail)) | exact (H.has).row1 (by (repeat (first | exact List.mem_cons_self | refine List.mem_cons_of_mem _ ?_)); first | done | fail) | exact (H.has).ro (by (repeat (first | exact List.mem_cons_self | refine List.mem_cons_of_mem _ ?_)); first | done | fail)) (by first | omega | assumption | decide | with_reducible exact nself | with_reducible exact rfl)) ?_)
          | (show O _ _ _ _ (⟨_, .call { callee := .builtin .len, args := _, argTypes := _ }, _, _, _, none⟩ :: _) _ _; refine O.val (Val.len (by (conv => lhs; whnf); try rfl) (by first | exact hr _ ((H.has).mono (by (repeat (first | exact Sub.refl | exact Sub.nil | refine Sub.mem (by (repeat (first | exact List.mem_cons_self | refine List.mem_cons_of_mem _ ?_)); first | done | fail) ?_ | refine Sub.cons ?_)); first | done | fail)) | exact (H.has).row1 (by (repeat (first | exact List.mem_cons_self | refine List.mem_cons_of_mem _ ?_)); first | done | fail) | exact (H.has).ro (by (repeat (first | exact List.mem_cons_self | refine List.mem_cons_of_mem _ ?_)); first | done | fail))) ?_)
          | (show O _ _ _ _ (⟨_, _, _, _, _, some _⟩ :: _) _ _; first | refine O.gyes rfl rfl rfl ?_ | refine O.gF rfl rfl (by first | omega | assumption | with_reducible exact nself | with_reducible exact rfl) rfl ?_ | refine O.gT rfl rfl (by first | omega | assumption | with_reducible exact nself | with_reducible exact rfl) rfl ?_)
          | (show C _ _ (.cond _ _ _) _ _ _; first | refine C.ifT rfl (by first | omega | assumption | with_reducible exact nself | with_reducible exact rfl) ?_ | refine C.ifF rfl (by first | omega | assumption | with_reducible exact nself | with_reducible exact rfl) ?_)
          | with_reducible refine D.done ?_
          | refine D.take rfl ?_
          | refine D.takeS rfl ?_
          | (show DT _ _ _ _ _ _ ⟨_, .binOp .shl _ (.const _) _ _, _, _, _, none⟩ _ _ _; refine DT.val (fun _ => Val.shlLl rfl rfl rfl) ?_)
          | (show DT _ _ _ _ _ _ ⟨_, .move _, _, _, _, none⟩ _ _ _; first | refine DT.val (fun _ => Val.moveI rfl) ?_ | refine DT.val (fun _ => Val.moveV (by (conv => lhs; whnf); try rfl)) ?_)
          | (show DT _ _ _ _ _ _ ⟨_, .assign _, _, _, _, none⟩ _ _ _; refine DT.val (fun _ => Val.assignI rfl) ?_)
          | (show DT _ _ _ _ _ _ ⟨_, .binOp .sub _ _ _ _, _, _, _, none⟩ _ _ _; refine DT.val (fun _ => Val.subU rfl rfl (by first | assumption | decide | ((repeat (first | assumption | decide | exact Fits.modU rfl | refine Fits.and ?_ | refine Fits.or ?_ ?_ | refine Fits.xor ?_ ?_ | refine Fits.shr ?_ | exact Fits.u8 (by first | omega | assumption) | exact Fits.u32 (by first | omega | assumption) | exact Fits.u64 (by first | omega | assumption) | exact Fits.i64 (by first | omega | assumption))); first | done | fail)) (by first | omega | assumption | decide | with_reducible exact nself | with_reducible exact rfl)) ?_)
          | (show DT _ _ _ _ _ _ ⟨_, .binOp .and _ _ _ _, _, _, _, none⟩ _ _ _; refine DT.val (fun _ => Val.andN rfl rfl (by first | assumption | decide | ((repeat (first | assumption | decide | exact Fits.modU rfl | refine Fits.and ?_ | refine Fits.or ?_ ?_ | refine Fits.xor ?_ ?_ | refine Fits.shr ?_ | exact Fits.u8 (by first | omega | assumption) | exact Fits.u32 (by first | omega | assumption) | exact Fits.u64 (by first | omega | assumption) | exact Fits.i64 (by first | omega | assumption))); first | done | fail)) (by first | assumption | decide | ((repeat (first | assumption | decide | exact Fits.modU rfl | refine Fits.and ?_ | refine Fits.or ?_ ?_ | refine Fits.xor ?_ ?_ | refine Fits.shr ?_ | exact Fits.u8 (by first | omega | assumption) | exact Fits.u32 (by first | omega | assumption) | exact Fits.u64 (by first | omega | assumption) | exact Fits.i64 (by first | omega | assumption))); first | done | fail))) ?_)
          | (show DT _ _ _ _ _ _ ⟨_, .fieldAddr _ _ _, _, _, _, none⟩ _ _ _; refine DT.val (fun _ => Val.fieldAt rfl (by first | assumption | exact RdC.nonnil (by first | exact hr _ ((H.has).mono (by (repeat (first | exact Sub.refl | exact Sub.nil | refine Sub.mem (by (repeat (first | exact List.mem_cons_self | refine List.mem_cons_of_mem _ ?_)); first | done | fail) ?_ | refine Sub.cons ?_)); first | done | fail)) | exact (H.has).row1 (by (repeat (first | exact List.mem_cons_self | refine List.mem_cons_of_mem _ ?_)); first | done | fail) | exact (H.has).ro (by (repeat (first | exact List.mem_cons_self | refine List.mem_cons_of_mem _ ?_)); first | done | fail)) (by first | omega | assumption | decide | with_reducible exact nself | with_reducible exact rfl))) ?_)
          | (show DS _ _ _ _ _ _ ⟨_, .convert _ _ _, _, _, _, none⟩ _ _ _; refine DS.val (by first | exact hS | exact H.has.mono (by (repeat (first | exact Sub.refl | exact Sub.nil | refine Sub.mem (by (repeat (first | exact List.mem_cons_self | refine List.mem_cons_of_mem _ ?_)); first | done | fail) ?_ | refine Sub.cons ?_)); first | done | fail)) (fun _ hS => Val.convN rfl (by first | assumption | decide | ((repeat (first | assumption | decide | exact Fits.modU rfl | refine Fits.and ?_ | refine Fits.or ?_ ?_ | refine Fits.xor ?_ ?_ | refine Fits.shr ?_ | exact Fits.u8 (by first | omega | assumption) | exact Fits.u32 (by first | omega | assumption) | exact Fits.u64 (by first | omega | assumption) | exact Fits.i64 (by first | omega | assumption))); first | done | fail))) ?_)
          | (show DS _ _ _ _ _ _ ⟨_, .load _ _, _, _, _, none⟩ _ _ _; refine DS.val (by first | exact hS | exact H.has.mono (by (repeat (first | exact Sub.refl | exact Sub.nil | refine Sub.mem (by (repeat (first | exact List.mem_cons_self | refine List.mem_cons_of_mem _ ?_)); first | done | fail) ?_ | refine Sub.cons ?_)); first | done | fail)) (fun _ hS => Val.loadK default rfl (by first | exact hr _ ((hS).mono (by (repeat (first | exact Sub.refl | exact Sub.nil | refine Sub.mem (by (repeat (first | exact List.mem_cons_self | refine List.mem_cons_of_mem _ ?_)); first | done | fail) ?_ | refine Sub.cons ?_)); first | done | fail)) | exact (hS).row1 (by (repeat (first | exact List.mem_cons_self | refine List.mem_cons_of_mem _ ?_)); first | done | fail) | exact (hS).ro (by (repeat (first | exact List.mem_cons_self | refine List.mem_cons_of_mem _ ?_)); first | done | fail)) (by first | omega | assumption | decide | with_reducible exact nself | with_reducible exact rfl) rfl) ?_)
          | (show DS _ _ _ _ _ _ ⟨_, .indexAddr _ _ _, _, _, _, none⟩ _ _ _; refine DS.val (by first | exact hS | exact H.has.mono (by (repeat (first | exact Sub.refl | exact Sub.nil | refine Sub.mem (by (repeat (first | exact List.mem_cons_self | refine List.mem_cons_of_mem _ ?_)); first | done | fail) ?_ | refine Sub.cons ?_)); first | done | fail)) (fun _ hS => Val.idxK (by (conv => lhs; whnf); try rfl) rfl (by first | exact hr _ ((hS).mono (by (repeat (first | exact Sub.refl | exact Sub.nil | refine Sub.mem (by (repeat (first | exact List.mem_cons_self | refine List.mem_cons_of_mem _ ?_)); first | done | fail) ?_ | refine Sub.cons ?_)); first | done | fail)) | exact (hS).row1 (by (repeat (first | exact List.mem_cons_self | refine List.mem_cons_of_mem _ ?_)); first | done | fail) | exact (hS).ro (by (repeat (first | exact List.mem_cons_self | refine List.mem_cons_of_mem _ ?_)); first | done | fail)) (by first | omega | assumption | decide | with_reducible exact nself | with_reducible exact rfl)) ?_)
          )
      exact ⟨c - (j + 1), j + 1, by omega, ⟨H, hjc, rfl⟩, ⟨rfl, rfl, rfl, trivial⟩⟩
    have hjc2 : j = i := by omega
    have hsz : (stN ops j).2 ≤ 8 * W.length := by rw [hjc2]; exact hsz
    have hslack : 8 * W.length - (stN ops j).2 < 8 := by rw [hjc2]; exact hslack
    repeat' (first
        | with_reducible refine C.seq ?_
        | with_reducible refine C.region ?_
        | with_reducible refine J.thn ?_
        | with_reducible refine O.nil ?_
        | with_reducible refine C.exit ?_
        | with_reducible refine C.ret ?_
        | with_reducible refine J.thnE ?_
        | with_reducible refine J.blkE ?_
        | with_reducible refine J.bodyR ?_
        | (show O _ _ _ _ (⟨_, .call { callee := .value (.func 27), args := _, argTypes := _ }, _, _, _, none⟩ :: _) _ _; refine O.call rfl (rdLeft_call H hbytes hsz) ?_; rintro _ w ⟨rfl, H⟩)
        | (show O _ _ _ _ (⟨_, .call { callee := .value (.func 24), args := _, argTypes := _ }, _, _, _, none⟩ :: _) _ _; refine O.call rfl (awakeB_call H) ?_; rintro _ w ⟨rfl, H⟩)
        | (show O _ _ _ _ (⟨_, .move _, _, _, _, none⟩ :: _) _ _; first | refine O.val (Val.moveI rfl) ?_ | refine O.val (Val.moveB rfl) ?_ | refine O.val (Val.moveP rfl) ?_ | refine O.val (Val.moveV (by (conv => lhs; whnf); try rfl)) ?_)
        | (show O _ _ _ _ (⟨_, .assign _, _, _, _, none⟩ :: _) _ _; refine O.val (Val.assignB rfl) ?_)
        | (show O _ _ _ _ (⟨_, .binOp .lss _ _ _ _, _, _, _, none⟩ :: _) _ _; refine O.val (Val.lss rfl rfl) ?_)
        | (show O _ _ _ _ (⟨_, .pick _ _ _, _, _, _, none⟩ :: _) _ _; first | refine O.val (Val.pickDF rfl (by first | omega | assumption | decide | with_reducible exact nself | with_reducible exact rfl)) ?_ | refine O.val (Val.pickDT rfl (by first | omega | assumption | decide | with_reducible exact nself | with_reducible exact rfl)) ?_)
        | (show O _ _ _ _ (⟨_, .call { callee := .builtin .len, args := _, argTypes := _ }, _, _, _, none⟩ :: _) _ _; refine O.val (Val.len (by (conv => lhs; whnf); try rfl) (by first | exact hr _ ((H.has).mono (by (repeat (first | exact Sub.refl | exact Sub.nil | refine Sub.mem (by (repeat (first | exact List.mem_cons_self | refine List.mem_cons_of_mem _ ?_)); first | done | fail) ?_ | refine Sub.cons ?_)); first | done | fail)) | exact (H.has).row1 (by (repeat (first | exact List.mem_cons_self | refine List.mem_cons_of_mem _ ?_)); first | done | fail) | exact (H.has).ro (by (repeat (first | exact List.mem_cons_self | refine List.mem_cons_of_mem _ ?_)); first | done | fail))) ?_)
        | (show O _ _ _ _ (⟨_, _, _, _, _, some _⟩ :: _) _ _; first | refine O.gT rfl rfl (by first | omega | assumption | with_reducible exact nself | with_reducible exact rfl) rfl ?_ | refine O.sF rfl rfl (by first | omega | assumption | with_reducible exact nself | with_reducible exact rfl) rfl ?_)
        | (show C _ _ (.cond _ _ _) _ _ _; first | with_reducible refine C.condF rfl rfl ?_ | refine C.ifF rfl (by first | omega | assumption | with_reducible exact nself | with_reducible exact rfl) ?_)
        )
    exact ⟨rfl, H.picks (by (repeat (first | exact Picks.refl | (apply Picks.cons; focus ((repeat (first | exact Pull.here | apply Pull.there)); done)) | apply Picks.drop)); first | done | fail)⟩
end Go.Proofs.Ytmffpmmhdianeaa.X
