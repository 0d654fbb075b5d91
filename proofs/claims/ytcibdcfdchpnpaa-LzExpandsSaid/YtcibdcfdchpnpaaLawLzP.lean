/- The law LzParts, walked. Nothing is assumed. -/
import Derived.Test.YtcibdcfdchpnpaaLzAw
import Derived.Test.YtcibdcfdchpnpaaLzOk
namespace Go.Proofs.Ytcibdcfdchpnpaa.X
open Go Go.RowKit
set_option linter.unusedSimpArgs false
set_option linter.unusedVariables false
set_option maxRecDepth 100000

theorem flatMap_take {α : Type} {f : α → List Value} {esz : Nat} [h : Esz f esz] : ∀ (xs : List α) (k : Nat), (xs.flatMap f).take (k * esz) = (xs.take k).flatMap f
  | [], k => by simp
  | x :: xs, 0 => by simp
  | x :: xs, k + 1 => by
    have e1 : (k + 1) * esz = (f x).length + k * esz := by rw [h.eq, Nat.add_mul]; omega
    rw [List.flatMap_cons, List.take_succ_cons, List.flatMap_cons, e1, List.take_append, List.take_of_length_le (Nat.le_add_right _ _), Nat.add_sub_cancel_left, flatMap_take xs k]
theorem RdK.cutHi {α : Type} {w0 : World} {L : List Res} {v : Value} {esz : Nat} {f : α → List Value} [h : Esz f esz] {xs : List α} (hr : RdK w0 L v esz f xs) {k : Nat} (hk : k ≤ xs.length) : RdK w0 L (subs v esz 0 k) esz f (xs.take k) := by
  have := Rd.subs hr (Nat.zero_le k) hk
  have hl : (xs.take k).length = k := by rw [List.length_take]; omega
  unfold RdK
  rw [hl, ← flatMap_take]
  simpa using this
theorem copyB_prefix (b : List Nat) (d : Nat) : ∀ k, b <+: copyB b d k
  | 0 => List.prefix_rfl
  | k + 1 => (copyB_prefix b d k).trans (List.prefix_append _ _)
theorem putB_prefix (b : List Nat) (x : TokR) : b <+: putB b x := by
  unfold putB; split
  · exact List.prefix_append _ _
  · exact copyB_prefix b _ _
theorem fold_prefix : ∀ (l : List TokR) (b : List Nat), b <+: l.foldl putB b
  | [], b => List.prefix_rfl
  | x :: l, b => (putB_prefix b x).trans (fold_prefix l (putB b x))
theorem tameF_take : ∀ (n : Nat) (l : List TokR) (k : Nat), tameF n (l.take k) = (tameF n l).take k
  | _, [], k => by simp [tameF]
  | n, x :: l, 0 => by simp [tameF]
  | n, x :: l, k + 1 => by simp [tameF, tameF_take]
/-- What is made of a token may be put. -/
theorem tame1_ok {n : Nat} {x : TokR} {M : Nat} (hM : n + 52 ≤ M) (hn : n ≤ 32768) : putE n (tame1 n x).1 M = 0 ∧ (∀ b : List Nat, b.length = n → (putB b (tame1 n x).1).length = (tame1 n x).2) ∧ (tame1 n x).2 ≤ n + 52 := by
  unfold tame1
  by_cases h : lowM x.len 4 = 0 ∨ n = 0
  · rw [if_pos h]
    refine ⟨putE_ok (ok_lit _) (show (0 : Int) ≤ n by omega) (show max (0 : Int) 1 ≤ (M : Int) - n by omega), fun b hb => ?_, Nat.add_le_add_left (by decide) n⟩
    rw [putB_lit]; simp [hb]
  · rw [if_neg h]
    have hdm := Nat.mod_lt (lowM x.dist 65536) (show 0 < n by omega)
    have h50 := Nat.mod_lt (lowM x.len 256) (show 0 < 50 by decide)
    obtain ⟨k, hk⟩ : ∃ k, k = lowM x.len 256 % 50 + 3 := ⟨_, rfl⟩
    obtain ⟨d, hd⟩ : ∃ d, d = lowM x.dist 65536 % n + 1 := ⟨_, rfl⟩
    rw [← hk, ← hd]
    refine ⟨putE_ok (ok_copy (by omega) (by omega)) (show (d : Int) ≤ n by omega) (show max (k : Int) 1 ≤ (M : Int) - n by omega), fun b hb => ?_, show n + k ≤ n + 52 by omega⟩
    rw [putB_copy b (by omega), copyB_len, hb]
theorem tame_run (M : Nat) : ∀ (l : List TokR) (n : Nat) (b : List Nat) (i : Nat), b.length = n → n + 52 * l.length ≤ M → n + 52 * l.length ≤ 32768 → expF M b i (tameF n l) = ((tameF n l).foldl putB b, i + l.length, 0)
  | [], n, b, i, _, _, _ => by simp [tameF, expF]
  | x :: l, n, b, i, hb, hM, hn => by
    simp only [List.length_cons] at hM hn
    obtain ⟨h1, h2, h3⟩ := tame1_ok (x := x) (n := n) (M := M) (by omega) (by omega)
    simp only [tameF, expF, hb, h1, if_true, List.foldl_cons, List.length_cons]
    rw [tame_run M l _ (putB b (tame1 n x).1) (i + 1) (h2 b hb) (by omega) (by omega), show i + 1 + l.length = i + (l.length + 1) from by omega]
theorem tame_at (M : Nat) : ∀ (l : List TokR) (n : Nat) (b : List Nat) (j : Nat), b.length = n → n + 52 * l.length ≤ M → n + 52 * l.length ≤ 32768 → j < l.length →
    putE (((tameF n l).take j).foldl putB b).length ((tameF n l).getD j default) M = 0 ∧ ((tameF n l).take (j + 1)).foldl putB b = putB (((tameF n l).take j).foldl putB b) ((tameF n l).getD j default) ∧ (((tameF n l).take j).foldl putB b).length ≤ n + 52 * j
  | [], n, b, j, _, _, _, hj => by simp at hj
  | x :: l, n, b, 0, hb, hM, hn, _ => by
    simp only [List.length_cons] at hM hn
    obtain ⟨h1, h2, h3⟩ := tame1_ok (x := x) (n := n) (M := M) (by omega) (by omega)
    simp [tameF, hb, h1]
  | x :: l, n, b, j + 1, hb, hM, hn, hj => by
    simp only [List.length_cons] at hM hn hj
    obtain ⟨h1, h2, h3⟩ := tame1_ok (x := x) (n := n) (M := M) (by omega) (by omega)
    have ih := tame_at M l _ (putB b (tame1 n x).1) j (h2 b hb) (by omega) (by omega) (by omega)
    simp only [tameF, List.take_succ_cons, List.foldl_cons, List.getD_cons_succ]
    exact ⟨ih.1, ih.2.1, by omega⟩
set_option maxHeartbeats 4000000 in
theorem lzpLaw_call {w0 w : World} {lv : Value} {raw : List TokR} {z : Int} (H : Own w0 w []) (hr : RdK w0 [] lv 3 tokV raw) (hw : ∀ x ∈ raw, x.Wf) :
    Call Try.prog 7 #[lv, .int .i64 z] w fun r w' => r = .bool true ∧ Own w0 w' [] := by
  refine Call.of (n := 99) (rs := [4]) Try.func7 rfl rfl rfl (by decide) (Nat.le_of_ble_eq_true rfl) ?_
  obtain ⟨T, hT⟩ : ∃ T, T = tameF 0 (raw.take 40) := ⟨_, rfl⟩
  have hTl : T.length = min 40 raw.length := by rw [hT, tameF_len, List.length_take]
  obtain ⟨k, hk⟩ : ∃ k, k = lowM z 256 % (T.length + 1) := ⟨_, rfl⟩
  have hkl : k ≤ T.length := by have := Nat.mod_lt (lowM z 256) (show 0 < T.length + 1 by omega); omega
  have ek : Value.int .i64 ((lowM z 256 % (T.length + 1) : Nat) : Int) = .int .i64 (k : Int) := by rw [hk]
  have hlen40 : (raw.take 40).length = T.length := by rw [hT, tameF_len]
  have hz : (1048576 : Int).toNat = 1048576 := rfl
  have hrun : expF (1048576 : Int).toNat [] 0 T = (T.foldl putB [], T.length, 0) := by
    have := tame_run 1048576 (raw.take 40) 0 [] 0 rfl (by omega) (by omega)
    rw [hz, hT, this, Nat.zero_add, tameF_len]
  have hrun2 : expF (1048576 : Int).toNat [] 0 (T.take k) = ((T.take k).foldl putB [], k, 0) := by
    have h1 : ((raw.take 40).take k).length = k := by rw [List.length_take]; omega
    have := tame_run 1048576 ((raw.take 40).take k) 0 [] 0 rfl (by omega) (by omega)
    rw [tameF_take, ← hT, h1, Nat.zero_add] at this
    rw [hz, this]
  have hpre : (T.take k).foldl putB [] <+: T.foldl putB [] := by
    have := fold_prefix (T.drop k) ((T.take k).foldl putB [])
    rw [← List.foldl_append, List.take_append_drop] at this
    exact this
  have hple := hpre.length_le
  have hptake : (T.foldl putB []).take ((T.take k).foldl putB []).length = (T.take k).foldl putB [] := List.prefix_iff_eq_take.1 hpre ▸ rfl
  have hlenR : ((T.foldl putB [])).length ≤ 1000000 := by
    have := tame_run 1048576 (raw.take 40) 0 [] 0 rfl (by omega) (by omega)
    by_cases h0 : T.length = 0
    · have : T = [] := List.eq_nil_of_length_eq_zero h0
      rw [this]; simp
    · have := tame_at 1048576 (raw.take 40) 0 [] (T.length - 1) rfl (by omega) (by omega) (by omega)
      rw [← hT] at this
      obtain ⟨h1, h2, h3⟩ := this
      rw [show T.length - 1 + 1 = T.length from by omega, List.take_length] at h2
      rw [h2]
      have h4 := (putE_zero h1).1
      rw [putB_len h4]
      unfold TokR.ok at h4
      omega
  obtain ⟨A, hA⟩ : ∃ A, A = T.foldl putB [] := ⟨_, rfl⟩
  obtain ⟨B, hB⟩ : ∃ B, B = (T.take k).foldl putB [] := ⟨_, rfl⟩
  rw [← hA] at hrun hple hptake hlenR
  rw [← hB] at hrun2 hple hptake
  have hs1 : ¬ (bst ((A.drop 0).take (B.length - 0)) ≠ bst B) := by
    rw [List.drop_zero, Nat.sub_zero, hptake]; exact nself
  repeat' (first
      | with_reducible refine C.seq ?_
      | with_reducible refine C.region ?_
      | with_reducible refine C.block ?_
      | with_reducible refine J.thn ?_
      | with_reducible refine O.nil ?_
      | with_reducible refine C.skip ?_
      | (show C _ _ (.region 5 _ true) _ _ _; refine C.drawnAll [9, 19, 21, 27, 28, 29, 31] (.take 0 (.take 1 (.take 2 (.take 3 (.take 4 (.take 5 (.take 6 (.take 7 (.take 8 (.takeS 9 (.take 10 (.take 11 (.take 12 (.take 13 (.take 14 (.take 15 (.take 16 (.take 17 (.take 18 (.takeS 19 (.take 20 (.takeS 21 (.take 22 (.take 23 (.take 24 (.take 25 (.take 26 (.takeS 27 (.takeS 28 (.takeS 29 (.take 30 (.takeS 31 (.take 32 (.take 33 .done)))))))))))))))))))))))))))))))))) (by kernel_rfl) (by (repeat (first | with_reducible exact NoPan.body | with_reducible exact NoPan.endS | with_reducible refine NoPan.thn ?_ | with_reducible refine NoPan.blk ?_)); first | done | fail) H ?_; intro w H hS)
      | (show O _ _ _ _ (⟨_, .call { callee := .value (.func 26), args := _, argTypes := _ }, _, _, _, none⟩ :: _) _ _; refine O.call rfl (tame_call (most := 40) H hr hw (by decide)) ?_; rintro tv w H; rw [← hT] at H)
      | (show O _ _ _ _ (⟨some 23, .binOp .rem _ _ _ _, _, _, _, none⟩ :: _) _ _; refine O.val (Val.as (Val.remN rfl rfl (by omega)) ek) ?_)
      | (show O _ _ _ _ (⟨some 26, .call { callee := .value (.func 27), args := _, argTypes := _ }, _, _, _, none⟩ :: _) _ _; refine O.call rfl (expand_call (z := 1048576) (l := T) H (Rd.rowK (by decide) (by (repeat (first | exact List.mem_cons_self | refine List.mem_cons_of_mem _ ?_)); first | done | fail)) (by omega) (by decide)) ?_; rintro _ w ⟨a1, rfl, H⟩; simp only [hrun] at H ⊢)
      | (show O _ _ _ _ (⟨some 34, .call { callee := .value (.func 27), args := _, argTypes := _ }, _, _, _, none⟩ :: _) _ _; refine O.call rfl (expand_call (z := 1048576) (l := T.take k) H (RdK.cutHi (Rd.rowK (by decide) (by (repeat (first | exact List.mem_cons_self | refine List.mem_cons_of_mem _ ?_)); first | done | fail)) hkl) (by rw [List.length_take]; omega) (by decide)) ?_; rintro _ w ⟨a2, rfl, H⟩; simp only [hrun2] at H ⊢; have hcA : Rd1 w0 (row1 a1 5 (nat_ .u8) A :: []) (subs a1 1 0 B.length) (nat_ .u8) ((A.drop 0).take (B.length - 0)) := Rd1.subs (Rd.row1 List.mem_cons_self) (by omega) (by omega))
      | (show O _ _ _ _ (⟨_, .binOp .add _ _ (.const _) _, _, _, _, none⟩ :: _) _ _; refine O.val (Val.addL rfl rfl (by first | omega | assumption | decide | with_reducible exact nself | with_reducible exact rfl)) ?_)
      | (show O _ _ _ _ (⟨_, .move _, _, _, _, none⟩ :: _) _ _; first | refine O.val (Val.moveI rfl) ?_ | refine O.val (Val.moveV (by (conv => lhs; whnf); try rfl)) ?_)
      | (show O _ _ _ _ (⟨_, .assign _, _, _, _, none⟩ :: _) _ _; first | refine O.val (Val.assignI rfl) ?_ | refine O.val (Val.assignB rfl) ?_ | refine O.val (Val.assignV (by (conv => lhs; whnf); try rfl)) ?_)
      | (show O _ _ _ _ (⟨_, .binOp .and _ _ _ _, _, _, _, none⟩ :: _) _ _; refine O.val (Val.maskI 8 256 rfl rfl (by exact rfl) (by decide) (by decide)) ?_)
      | (show O _ _ _ _ (⟨_, .extract _ _, _, _, _, none⟩ :: _) _ _; refine O.val (Val.extract rfl rfl) ?_)
      | (show O _ _ _ _ (⟨_, .slice _ _ none (some _) none, _, _, _, none⟩ :: _) _ _; refine O.val (Val.cutHi (by (conv => lhs; whnf); try rfl) rfl (by first | exact hr _ ((H.has).mono (by (repeat (first | exact Sub.refl | exact Sub.nil | refine Sub.mem (by (repeat (first | exact List.mem_cons_self | refine List.mem_cons_of_mem _ ?_)); first | done | fail) ?_ | refine Sub.cons ?_)); first | done | fail)) | exact hcA _ ((H.has).mono (by (repeat (first | exact Sub.refl | exact Sub.nil | refine Sub.mem (by (repeat (first | exact List.mem_cons_self | refine List.mem_cons_of_mem _ ?_)); first | done | fail) ?_ | refine Sub.cons ?_)); first | done | fail)) | exact (H.has).row1 (by (repeat (first | exact List.mem_cons_self | refine List.mem_cons_of_mem _ ?_)); first | done | fail) | exact (H.has).ro (by (repeat (first | exact List.mem_cons_self | refine List.mem_cons_of_mem _ ?_)); first | done | fail) | exact (H.has).rowKm (by (repeat (first | exact List.mem_cons_self | refine List.mem_cons_of_mem _ ?_)); first | done | fail) (by decide)) (by first | omega | assumption | decide | with_reducible exact nself | with_reducible exact rfl) (by first | omega | assumption | decide | with_reducible exact nself | with_reducible exact rfl)) ?_)
      | (show O _ _ _ _ (⟨_, .call { callee := .builtin .len, args := _, argTypes := _ }, _, _, _, none⟩ :: _) _ _; refine O.val (Val.len (by (conv => lhs; whnf); try rfl) (by first | exact hr _ ((H.has).mono (by (repeat (first | exact Sub.refl | exact Sub.nil | refine Sub.mem (by (repeat (first | exact List.mem_cons_self | refine List.mem_cons_of_mem _ ?_)); first | done | fail) ?_ | refine Sub.cons ?_)); first | done | fail)) | exact hcA _ ((H.has).mono (by (repeat (first | exact Sub.refl | exact Sub.nil | refine Sub.mem (by (repeat (first | exact List.mem_cons_self | refine List.mem_cons_of_mem _ ?_)); first | done | fail) ?_ | refine Sub.cons ?_)); first | done | fail)) | exact (H.has).row1 (by (repeat (first | exact List.mem_cons_self | refine List.mem_cons_of_mem _ ?_)); first | done | fail) | exact (H.has).ro (by (repeat (first | exact List.mem_cons_self | refine List.mem_cons_of_mem _ ?_)); first | done | fail) | exact (H.has).rowKm (by (repeat (first | exact List.mem_cons_self | refine List.mem_cons_of_mem _ ?_)); first | done | fail) (by decide))) ?_)
      | (show C _ _ (.cond _ _ _) _ _ _; refine C.ifF rfl (by first | omega | assumption | with_reducible exact nself | with_reducible exact rfl) ?_)
      | with_reducible refine D.done ?_
      | refine D.take rfl ?_
      | refine D.takeS rfl ?_
      | (show DT _ _ _ _ _ _ ⟨_, .move _, _, _, _, none⟩ _ _ _; first | refine DT.val (fun _ => Val.moveI rfl) ?_ | refine DT.val (fun _ => Val.moveB rfl) ?_ | refine DT.val (fun _ => Val.moveV (by (conv => lhs; whnf); try rfl)) ?_)
      | (show DT _ _ _ _ _ _ ⟨_, .binOp .gtr _ _ _ _, _, _, _, none⟩ _ _ _; refine DT.val (fun _ => Val.gtr rfl rfl) ?_)
      | (show DT _ _ _ _ _ _ ⟨_, .binOp .neq _ _ _ _, _, _, _, none⟩ _ _ _; first | refine DT.val (fun _ => Val.neq rfl rfl) ?_ | refine DT.val (fun _ => Val.neqS rfl rfl) ?_)
      | (show DT _ _ _ _ _ _ ⟨_, .pick _ _ _, _, _, _, none⟩ _ _ _; first | refine DT.val (fun _ => Val.pickF rfl rfl) ?_ | refine DT.val (fun _ => Val.pickDF rfl (by first | omega | assumption | decide | with_reducible exact nself | with_reducible exact rfl)) ?_)
      | (show DS _ _ _ _ _ _ ⟨_, .convert _ _ _, _, _, _, none⟩ _ _ _; refine DS.val (by first | exact hS | exact H.has.mono (by (repeat (first | exact Sub.refl | exact Sub.nil | refine Sub.mem (by (repeat (first | exact List.mem_cons_self | refine List.mem_cons_of_mem _ ?_)); first | done | fail) ?_ | refine Sub.cons ?_)); first | done | fail)) (fun _ hS => Val.toStr (by (conv => lhs; whnf); try rfl) (by first | exact hr _ ((hS).mono (by (repeat (first | exact Sub.refl | exact Sub.nil | refine Sub.mem (by (repeat (first | exact List.mem_cons_self | refine List.mem_cons_of_mem _ ?_)); first | done | fail) ?_ | refine Sub.cons ?_)); first | done | fail)) | exact hcA _ ((hS).mono (by (repeat (first | exact Sub.refl | exact Sub.nil | refine Sub.mem (by (repeat (first | exact List.mem_cons_self | refine List.mem_cons_of_mem _ ?_)); first | done | fail) ?_ | refine Sub.cons ?_)); first | done | fail)) | exact (hS).row1 (by (repeat (first | exact List.mem_cons_self | refine List.mem_cons_of_mem _ ?_)); first | done | fail) | exact (hS).ro (by (repeat (first | exact List.mem_cons_self | refine List.mem_cons_of_mem _ ?_)); first | done | fail) | exact (hS).rowKm (by (repeat (first | exact List.mem_cons_self | refine List.mem_cons_of_mem _ ?_)); first | done | fail) (by decide))) ?_)
      | (show DS _ _ _ _ _ _ ⟨_, .slice _ _ none (some _) none, _, _, _, none⟩ _ _ _; refine DS.val (by first | exact hS | exact H.has.mono (by (repeat (first | exact Sub.refl | exact Sub.nil | refine Sub.mem (by (repeat (first | exact List.mem_cons_self | refine List.mem_cons_of_mem _ ?_)); first | done | fail) ?_ | refine Sub.cons ?_)); first | done | fail)) (fun _ hS => Val.cutHi (by (conv => lhs; whnf); try rfl) rfl (by first | exact hr _ ((hS).mono (by (repeat (first | exact Sub.refl | exact Sub.nil | refine Sub.mem (by (repeat (first | exact List.mem_cons_self | refine List.mem_cons_of_mem _ ?_)); first | done | fail) ?_ | refine Sub.cons ?_)); first | done | fail)) | exact hcA _ ((hS).mono (by (repeat (first | exact Sub.refl | exact Sub.nil | refine Sub.mem (by (repeat (first | exact List.mem_cons_self | refine List.mem_cons_of_mem _ ?_)); first | done | fail) ?_ | refine Sub.cons ?_)); first | done | fail)) | exact (hS).row1 (by (repeat (first | exact List.mem_cons_self | refine List.mem_cons_of_mem _ ?_)); first | done | fail) | exact (hS).ro (by (repeat (first | exact List.mem_cons_self | refine List.mem_cons_of_mem _ ?_)); first | done | fail) | exact (hS).rowKm (by (repeat (first | exact List.mem_cons_self | refine List.mem_cons_of_mem _ ?_)); first | done | fail) (by decide)) (by first | omega | assumption | decide | with_reducible exact nself | with_reducible exact rfl) (by first | omega | assumption | decide | with_reducible exact nself | with_reducible exact rfl)) ?_)
      | (show DS _ _ _ _ _ _ ⟨_, .call { callee := .builtin .len, args := _, argTypes := _ }, _, _, _, none⟩ _ _ _; refine DS.val (by first | exact hS | exact H.has.mono (by (repeat (first | exact Sub.refl | exact Sub.nil | refine Sub.mem (by (repeat (first | exact List.mem_cons_self | refine List.mem_cons_of_mem _ ?_)); first | done | fail) ?_ | refine Sub.cons ?_)); first | done | fail)) (fun _ hS => Val.len (by (conv => lhs; whnf); try rfl) (by first | exact hr _ ((hS).mono (by (repeat (first | exact Sub.refl | exact Sub.nil | refine Sub.mem (by (repeat (first | exact List.mem_cons_self | refine List.mem_cons_of_mem _ ?_)); first | done | fail) ?_ | refine Sub.cons ?_)); first | done | fail)) | exact hcA _ ((hS).mono (by (repeat (first | exact Sub.refl | exact Sub.nil | refine Sub.mem (by (repeat (first | exact List.mem_cons_self | refine List.mem_cons_of_mem _ ?_)); first | done | fail) ?_ | refine Sub.cons ?_)); first | done | fail)) | exact (hS).row1 (by (repeat (first | exact List.mem_cons_self | refine List.mem_cons_of_mem _ ?_)); first | done | fail) | exact (hS).ro (by (repeat (first | exact List.mem_cons_self | refine List.mem_cons_of_mem _ ?_)); first | done | fail) | exact (hS).rowKm (by (repeat (first | exact List.mem_cons_self | refine List.mem_cons_of_mem _ ?_)); first | done | fail) (by decide))) ?_)
      | refine DT.gyes rfl rfl (by first | rfl | exact decide_eq_true (by first | omega | assumption | with_reducible exact rfl) | exact decide_eq_false (by first | omega | assumption | with_reducible exact nself)) ?_
      | refine DS.gyes rfl rfl (by first | rfl | exact decide_eq_true (by first | omega | assumption | with_reducible exact rfl) | exact decide_eq_false (by first | omega | assumption | with_reducible exact nself)) ?_
      )
  refine C.loopS (fun s : Nat × Value => [(5, tv), (7, a1), (10, s.2), (13, .int .i64 ((s.1 : Nat) : Int))]) (fun m s w => Own w0 w (row1 s.2 5 (nat_ .u8) ((T.take s.1).foldl putB []) :: row1 a1 5 (nat_ .u8) A :: rowK tv 38 3 tokV T :: []) ∧ k ≤ s.1 ∧ s.1 ≤ T.length ∧ m = T.length - s.1) (T.length - k) (k, a2) ⟨by rw [← hB]; exact H.picks (by (repeat (first | exact Picks.refl | (apply Picks.cons; focus ((repeat (first | exact Pull.here | apply Pull.there)); done)) | apply Picks.drop)); first | done | fail), by simp, by simpa using hkl, by simp⟩ ⟨rfl, rfl, rfl, rfl, trivial⟩ ?_
  rintro m ⟨i, v⟩ e w ⟨H, hi1, hi2, rfl⟩
  simp only at H hi1 hi2
  dsimp only
  by_cases hil : i < T.length
  · have hat := tame_at 1048576 (raw.take 40) 0 [] i rfl (by omega) (by omega) (by omega)
    rw [← hT] at hat
    obtain ⟨g1, g2, g3⟩ := hat
    repeat' (first
        | with_reducible refine C.seq ?_
        | with_reducible refine C.region ?_
        | with_reducible refine C.block ?_
        | with_reducible refine J.thn ?_
        | with_reducible refine O.nil ?_
        | with_reducible refine J.blkN ?_
        | with_reducible refine C.skip ?_
        | (show O _ _ _ _ (⟨_, .call { callee := .value (.func 28), args := _, argTypes := _ }, _, _, _, none⟩ :: _) _ _; refine O.call rfl (lzPut_yes (x := T.getD i default) (z := 1048576) H (Rd.row1 (by (repeat (first | exact List.mem_cons_self | refine List.mem_cons_of_mem _ ?_)); first | done | fail)) (by omega) (by decide) g1) ?_; rintro _ w ⟨v2, rfl, H⟩; rw [← g2] at H)
        | (show O _ _ _ _ (⟨_, .binOp .add _ _ (.const _) _, _, _, _, none⟩ :: _) _ _; refine O.val (Val.addL rfl rfl (by first | omega | assumption | decide | with_reducible exact nself | with_reducible exact rfl)) ?_)
        | (show O _ _ _ _ (⟨_, .move _, _, _, _, none⟩ :: _) _ _; first | refine O.val (Val.moveI rfl) ?_ | refine O.val (Val.moveV (by (conv => lhs; whnf); try rfl)) ?_)
        | (show O _ _ _ _ (⟨_, .assign _, _, _, _, none⟩ :: _) _ _; first | refine O.val (Val.assignI rfl) ?_ | refine O.val (Val.assignV (by (conv => lhs; whnf); try rfl)) ?_)
        | (show O _ _ _ _ (⟨_, .binOp .lss _ _ _ _, _, _, _, none⟩ :: _) _ _; refine O.val (Val.lss rfl rfl) ?_)
        | (show O _ _ _ _ (⟨_, .binOp .neq _ _ _ _, _, _, _, none⟩ :: _) _ _; refine O.val (Val.neq rfl rfl) ?_)
        | (show O _ _ _ _ (⟨_, .extract _ _, _, _, _, none⟩ :: _) _ _; refine O.val (Val.extract rfl rfl) ?_)
        | (show O _ _ _ _ (⟨_, .load _ _, _, _, _, none⟩ :: _) _ _; refine O.val (Val.loadAggK default rfl (by first | exact hr _ ((H.has).mono (by (repeat (first | exact Sub.refl | exact Sub.nil | refine Sub.mem (by (repeat (first | exact List.mem_cons_self | refine List.mem_cons_of_mem _ ?_)); first | done | fail) ?_ | refine Sub.cons ?_)); first | done | fail)) | exact (H.has).row1 (by (repeat (first | exact List.mem_cons_self | refine List.mem_cons_of_mem _ ?_)); first | done | fail) | exact (H.has).ro (by (repeat (first | exact List.mem_cons_self | refine List.mem_cons_of_mem _ ?_)); first | done | fail) | exact (H.has).rowKm (by (repeat (first | exact List.mem_cons_self | refine List.mem_cons_of_mem _ ?_)); first | done | fail) (by decide)) (by first | omega | assumption | decide | with_reducible exact nself | with_reducible exact rfl)) ?_)
        | (show O _ _ _ _ (⟨_, .indexAddr _ _ _, _, _, _, none⟩ :: _) _ _; refine O.val (Val.idxK (by (conv => lhs; whnf); try rfl) rfl (by first | exact hr _ ((H.has).mono (by (repeat (first | exact Sub.refl | exact Sub.nil | refine Sub.mem (by (repeat (first | exact List.mem_cons_self | refine List.mem_cons_of_mem _ ?_)); first | done | fail) ?_ | refine Sub.cons ?_)); first | done | fail)) | exact (H.has).row1 (by (repeat (first | exact List.mem_cons_self | refine List.mem_cons_of_mem _ ?_)); first | done | fail) | exact (H.has).ro (by (repeat (first | exact List.mem_cons_self | refine List.mem_cons_of_mem _ ?_)); first | done | fail) | exact (H.has).rowKm (by (repeat (first | exact List.mem_cons_self | refine List.mem_cons_of_mem _ ?_)); first | done | fail) (by decide)) (by first | omega | assumption | decide | with_reducible exact nself | with_reducible exact rfl)) ?_)
        | (show O _ _ _ _ (⟨_, .call { callee := .builtin .len, args := _, argTypes := _ }, _, _, _, none⟩ :: _) _ _; refine O.val (Val.len (by (conv => lhs; whnf); try rfl) (by first | exact hr _ ((H.has).mono (by (repeat (first | exact Sub.refl | exact Sub.nil | refine Sub.mem (by (repeat (first | exact List.mem_cons_self | refine List.mem_cons_of_mem _ ?_)); first | done | fail) ?_ | refine Sub.cons ?_)); first | done | fail)) | exact (H.has).row1 (by (repeat (first | exact List.mem_cons_self | refine List.mem_cons_of_mem _ ?_)); first | done | fail) | exact (H.has).ro (by (repeat (first | exact List.mem_cons_self | refine List.mem_cons_of_mem _ ?_)); first | done | fail) | exact (H.has).rowKm (by (repeat (first | exact List.mem_cons_self | refine List.mem_cons_of_mem _ ?_)); first | done | fail) (by decide))) ?_)
        | (show C _ _ (.cond _ _ _) _ _ _; first | with_reducible refine C.condF rfl rfl ?_ | refine C.ifT rfl (by first | omega | assumption | with_reducible exact nself | with_reducible exact rfl) ?_)
        )
    exact ⟨T.length - (i + 1), (i + 1, _), by omega, ⟨H.picks (by (repeat (first | exact Picks.refl | (apply Picks.cons; focus ((repeat (first | exact Pull.here | apply Pull.there)); done)) | apply Picks.drop)); first | done | fail), by simp only; omega, hil, rfl⟩, ⟨rfl, rfl, rfl, rfl, trivial⟩⟩
  · have hie : i = T.length := by omega
    rw [hie, List.take_length, ← hA] at H
    repeat' (first
        | with_reducible refine C.seq ?_
        | with_reducible refine C.region ?_
        | with_reducible refine J.thn ?_
        | with_reducible refine O.nil ?_
        | with_reducible refine C.exit ?_
        | with_reducible refine C.ret ?_
        | with_reducible refine J.thnE ?_
        | with_reducible refine J.blkE ?_
        | with_reducible refine J.bodyR ?_
        | (show O _ _ _ _ (⟨_, .call { callee := .value (.func 29), args := _, argTypes := _ }, _, _, _, none⟩ :: _) _ _; refine O.call rfl (awakeL_call H) ?_; rintro _ w ⟨rfl, H⟩)
        | (show O _ _ _ _ (⟨_, .move _, _, _, _, none⟩ :: _) _ _; first | refine O.val (Val.moveI rfl) ?_ | refine O.val (Val.moveB rfl) ?_ | refine O.val (Val.moveV (by (conv => lhs; whnf); try rfl)) ?_)
        | (show O _ _ _ _ (⟨_, .assign _, _, _, _, none⟩ :: _) _ _; refine O.val (Val.assignB rfl) ?_)
        | (show O _ _ _ _ (⟨_, .binOp .lss _ _ _ _, _, _, _, none⟩ :: _) _ _; refine O.val (Val.lss rfl rfl) ?_)
        | (show O _ _ _ _ (⟨_, .binOp .eql _ _ _ _, _, _, _, none⟩ :: _) _ _; refine O.val (Val.eqlS rfl rfl) ?_)
        | (show O _ _ _ _ (⟨_, .pick _ _ _, _, _, _, none⟩ :: _) _ _; refine O.val (Val.pickDT rfl (by first | omega | assumption | decide | with_reducible exact nself | with_reducible exact rfl)) ?_)
        | (show O _ _ _ _ (⟨_, .convert _ _ _, _, _, _, none⟩ :: _) _ _; refine O.val (Val.toStr (by (conv => lhs; whnf); try rfl) (by first | exact hr _ ((H.has).mono (by (repeat (first | exact Sub.refl | exact Sub.nil | refine Sub.mem (by (repeat (first | exact List.mem_cons_self | refine List.mem_cons_of_mem _ ?_)); first | done | fail) ?_ | refine Sub.cons ?_)); first | done | fail)) | exact (H.has).row1 (by (repeat (first | exact List.mem_cons_self | refine List.mem_cons_of_mem _ ?_)); first | done | fail) | exact (H.has).ro (by (repeat (first | exact List.mem_cons_self | refine List.mem_cons_of_mem _ ?_)); first | done | fail) | exact (H.has).rowKm (by (repeat (first | exact List.mem_cons_self | refine List.mem_cons_of_mem _ ?_)); first | done | fail) (by decide))) ?_)
        | (show O _ _ _ _ (⟨_, .call { callee := .builtin .len, args := _, argTypes := _ }, _, _, _, none⟩ :: _) _ _; refine O.val (Val.len (by (conv => lhs; whnf); try rfl) (by first | exact hr _ ((H.has).mono (by (repeat (first | exact Sub.refl | exact Sub.nil | refine Sub.mem (by (repeat (first | exact List.mem_cons_self | refine List.mem_cons_of_mem _ ?_)); first | done | fail) ?_ | refine Sub.cons ?_)); first | done | fail)) | exact (H.has).row1 (by (repeat (first | exact List.mem_cons_self | refine List.mem_cons_of_mem _ ?_)); first | done | fail) | exact (H.has).ro (by (repeat (first | exact List.mem_cons_self | refine List.mem_cons_of_mem _ ?_)); first | done | fail) | exact (H.has).rowKm (by (repeat (first | exact List.mem_cons_self | refine List.mem_cons_of_mem _ ?_)); first | done | fail) (by decide))) ?_)
        | (show O _ _ _ _ (⟨_, _, _, _, _, some _⟩ :: _) _ _; refine O.gT rfl rfl (by first | omega | assumption | with_reducible exact nself | with_reducible exact rfl) rfl ?_)
        | (show C _ _ (.cond _ _ _) _ _ _; refine C.ifF rfl (by first | omega | assumption | with_reducible exact nself | with_reducible exact rfl) ?_)
        )
    exact ⟨rfl, H.picks (by (repeat (first | exact Picks.refl | (apply Picks.cons; focus ((repeat (first | exact Pull.here | apply Pull.there)); done)) | apply Picks.drop)); first | done | fail)⟩
end Go.Proofs.Ytcibdcfdchpnpaa.X
