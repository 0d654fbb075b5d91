/- What the document fixes of tokens; tokens that may be, made of some. Nothing is assumed. -/
import Derived.Test.YtcibdcfdchpnpaaLz2
import Derived.Test.YtcibdcfdchpnpaaLzSym
import Derived.Test.YtcibdcfdchpnpaaOpenK
namespace Go.Proofs.Ytcibdcfdchpnpaa.X
open Go Go.RowKit Go.WideShapes Go.Deep Go.ChangeShapes
set_option linter.unusedSimpArgs false
set_option linter.unusedVariables false
set_option maxRecDepth 100000

theorem openToks {H : Type} {enc : TypeId × Value → H} {W : World} {b0 base : Nat} {held : Bool} {v : Value} {d : DataW H} {ps : List MemPlace}
    (hval : Value.okWide Try.prog W .any base 35 v) (h : DataW.Trod enc Try.prog W b0 (fun _ => true) held 35 v d ps) :
    ∃ xs : List TokR, RdK W [] v 3 tokV xs ∧ ∀ x ∈ xs, TokR.Wf x := by
  refine openRecs (f := tokV) (good := TokR.Wf) (e := 38) (by kernel_rfl) (by kernel_rfl) (by decide) ?_ hval h
  intro n cs x hx
  obtain ⟨y0, y1, y2, m, rfl, hl, g0, g1, g2⟩ := trod_struct3 Try.underlying38 hx
  have c0 : Try.prog.cellsOf 3 = 1 := by kernel_rfl
  have c2 : Try.prog.cellsOf 5 = 1 := by kernel_rfl
  have cl : cs.length = 3 := by rw [hl]; kernel_rfl
  match cs, cl with
  | [a, b, c], _ =>
    simp only [c0, c2, List.drop, List.take] at g0 g1 g2
    obtain ⟨k, hk, _, wk⟩ := DataW.trod_int Try.underlying3 g0
    obtain ⟨z, hz, _, wz⟩ := DataW.trod_int Try.underlying3 g1
    obtain ⟨u, hu, _, wu⟩ := DataW.trod_int Try.underlying5 g2
    simp only [List.cons.injEq, and_true] at hk hz hu
    subst hk; subst hz; subst hu
    obtain ⟨c, rfl, hc⟩ := natOf rfl rfl wu
    exact ⟨⟨k, z, c⟩, rfl, ⟨hc, i64Of wk, i64Of wz⟩⟩
theorem awakeL_call {w0 w : World} {L : List Res} (H : Own w0 w L) :
    Call Try.prog 29 #[] w fun r w' => r = .bool true ∧ Own w0 w' L := by
  refine Call.of (args := []) (n := 61) (rs := [0]) Try.func29 rfl rfl rfl (by decide) (Nat.le_of_ble_eq_true rfl) ?_
  have he1 : expF (100 : Int).toNat [] 0 [⟨0, 0, 97⟩, ⟨3, 1, 0⟩] = ([97, 97, 97, 97], 2, 0) := by decide
  have he2 : expF (100 : Int).toNat [] 0 [⟨3, 1, 0⟩] = ([], 0, 4) := by decide
  have hs : symL 258 28 = 28 := by decide
  have hx : lenExtra (257 + 28) = 0 := by decide
  have hb : lenBase (257 + 28) = 258 := by decide
  have hst : bst [97, 97, 97, 97] = { data := #[97, 97, 97, 97] } := rfl
  have hok : TokR.ok ⟨0, 0, 5⟩ := by decide
  repeat' (first
      | with_reducible refine C.seq ?_
      | with_reducible refine C.region ?_
      | with_reducible refine J.thn ?_
      | with_reducible refine O.nil ?_
      | with_reducible refine C.ret ?_
      | with_reducible refine J.bodyR ?_
      | (show O _ _ _ _ (⟨some 13, .buildSlice _ _ _, _, _, _, none⟩ :: _) _ _; refine O.buildSliceK (f := tokV) (xs := [⟨0, 0, 97⟩, ⟨3, 1, 0⟩]) (by (repeat (first | exact Parts.nil | (apply Parts.cons (by first | rfl | (conv => lhs; whnf))))); first | done | fail) rfl rfl (by decide) (by decide) H ?_; intro v w H)
      | (show O _ _ _ _ (⟨some 20, .buildSlice _ _ _, _, _, _, none⟩ :: _) _ _; refine O.buildSliceK (f := tokV) (xs := [⟨3, 1, 0⟩]) (by (repeat (first | exact Parts.nil | (apply Parts.cons (by first | rfl | (conv => lhs; whnf))))); first | done | fail) rfl rfl (by decide) (by decide) H ?_; intro v w H)
      | (show O _ _ _ _ (⟨some 14, .call { callee := .value (.func 27), args := _, argTypes := _ }, _, _, _, none⟩ :: _) _ _; refine O.call rfl (expand_call (z := 100) (l := [⟨0, 0, 97⟩, ⟨3, 1, 0⟩]) H (Rd.rowK (by decide) (by (repeat (first | exact List.mem_cons_self | refine List.mem_cons_of_mem _ ?_)); first | done | fail)) (by decide) (by decide)) ?_; rintro _ w ⟨u1, rfl, H⟩; rw [he1] at H ⊢)
      | (show O _ _ _ _ (⟨some 21, .call { callee := .value (.func 27), args := _, argTypes := _ }, _, _, _, none⟩ :: _) _ _; refine O.call rfl (expand_call (z := 100) (l := [⟨3, 1, 0⟩]) H (Rd.rowK (by decide) (by (repeat (first | exact List.mem_cons_self | refine List.mem_cons_of_mem _ ?_)); first | done | fail)) (by decide) (by decide)) ?_; rintro _ w ⟨u2, rfl, H⟩; rw [he2] at H ⊢)
      | (show O _ _ _ _ (⟨_, .call { callee := .value (.func 34), args := _, argTypes := _ }, _, _, _, none⟩ :: _) _ _; refine O.call rfl (lenSym_call (n := 258) H (by decide) (by decide)) ?_; rintro _ w ⟨rfl, H⟩; rw [hs, hx, hb])
      | (show O _ _ _ _ (⟨_, .call { callee := .value (.func 31), args := _, argTypes := _ }, _, _, _, none⟩ :: _) _ _; refine O.call rfl (okTok_yes (x := ⟨0, 0, 5⟩) H hok) ?_; rintro _ w ⟨rfl, H⟩)
      | (show O _ _ _ _ (⟨_, .move _, _, _, _, none⟩ :: _) _ _; first | refine O.val (Val.moveI rfl) ?_ | refine O.val (Val.moveB rfl) ?_ | refine O.val (Val.moveV (by (conv => lhs; whnf); try rfl)) ?_)
      | (show O _ _ _ _ (⟨_, .assign _, _, _, _, none⟩ :: _) _ _; first | refine O.val (Val.assignI rfl) ?_ | refine O.val (Val.assignB rfl) ?_ | refine O.val (Val.assignV (by (conv => lhs; whnf); try rfl)) ?_)
      | (show O _ _ _ _ (⟨_, .binOp .eql _ _ _ _, _, _, _, none⟩ :: _) _ _; first | refine O.val (Val.eql rfl rfl) ?_ | refine O.val (Val.eqlS rfl rfl) ?_)
      | (show O _ _ _ _ (⟨_, .extract _ _, _, _, _, none⟩ :: _) _ _; refine O.val (Val.extract rfl rfl) ?_)
      | (show O _ _ _ _ (⟨_, .build _ _, _, _, _, none⟩ :: _) _ _; refine O.val (Val.buildF (by (repeat (first | exact Fields.nil | (apply Fields.one; (conv => lhs; whnf); (exact (by first | rfl | exact (H.has).one (by (repeat (first | exact List.mem_cons_self | refine List.mem_cons_of_mem _ ?_)); first | done | fail) | exact (H.has).oneRo (by (repeat (first | exact List.mem_cons_self | refine List.mem_cons_of_mem _ ?_)); first | done | fail)))))); first | done | fail) (by (conv => lhs; simp only [fillG, List.getElem?_cons_zero, List.getElem?_cons_succ, List.length_cons, List.length_nil, List.take_succ_cons, List.take_zero, List.drop_succ_cons, List.drop_zero, List.nil_append, List.cons_append, List.append_nil, Nat.reduceAdd, Nat.reduceLeDiff, Nat.zero_add, and_self, and_true, true_and, if_true, Nat.le_refl]); try exact rfl)) ?_)
      | (show O _ _ _ _ (⟨_, .pick _ _ _, _, _, _, none⟩ :: _) _ _; refine O.val (Val.pickT rfl rfl) ?_)
      | (show O _ _ _ _ (⟨_, .convert _ _ _, _, _, _, none⟩ :: _) _ _; refine O.val (Val.toStr (by (conv => lhs; whnf); try rfl) (by first | exact (H.has).row1 (by (repeat (first | exact List.mem_cons_self | refine List.mem_cons_of_mem _ ?_)); first | done | fail) | exact (H.has).ro (by (repeat (first | exact List.mem_cons_self | refine List.mem_cons_of_mem _ ?_)); first | done | fail) | exact (H.has).rowKm (by (repeat (first | exact List.mem_cons_self | refine List.mem_cons_of_mem _ ?_)); first | done | fail) (by decide))) ?_)
      | (show O _ _ _ _ (⟨_, _, _, _, _, some _⟩ :: _) _ _; refine O.gyes rfl rfl rfl ?_)
      )
  exact ⟨rfl, H.picks (by (repeat (first | exact Picks.refl | (apply Picks.cons; focus ((repeat (first | exact Pull.here | apply Pull.there)); done)) | apply Picks.drop)); first | done | fail)⟩
/-- One token made of another, behind so many bytes; how many bytes then. -/
def tame1 (n : Nat) (x : TokR) : TokR × Nat :=
  if lowM x.len 4 = 0 ∨ n = 0 then (⟨0, 0, x.lit⟩, n + 1) else (⟨((lowM x.len 256 % 50 + 3 : Nat) : Int), ((lowM x.dist 65536 % n + 1 : Nat) : Int), 0⟩, n + (lowM x.len 256 % 50 + 3))
def tameF : Nat → List TokR → List TokR
  | _, [] => []
  | n, x :: l => (tame1 n x).1 :: tameF (tame1 n x).2 l
theorem tameF_len : ∀ (n : Nat) (l : List TokR), (tameF n l).length = l.length
  | _, [] => rfl
  | n, x :: l => by simp [tameF, tameF_len]
set_option maxHeartbeats 1000000 in
theorem tame_call {w0 w : World} {L : List Res} {lv : Value} {l : List TokR} {most : Nat} (H : Own w0 w L) (hr : RdK w0 L lv 3 tokV l) (hw : ∀ x ∈ l, x.Wf) (hm : most ≤ 10000) :
    Call Try.prog 26 #[lv, .int .i64 (most : Int)] w fun r w' => Own w0 w' (rowK r 38 3 tokV (tameF 0 (l.take most)) :: L) := by
  refine Call.of (n := 58) (rs := [4]) Try.func26 rfl rfl rfl (by decide) (Nat.le_of_ble_eq_true rfl) ?_
  have hl := (hr _ (H.has.mono (by (repeat (first | exact Sub.refl | exact Sub.nil | refine Sub.mem (by (repeat (first | exact List.mem_cons_self | refine List.mem_cons_of_mem _ ?_)); first | done | fail) ?_ | refine Sub.cons ?_)); first | done | fail))).len_le
  simp only [maxLen] at hl
  have H := H.nilRow 38 3
  repeat' (first
      | with_reducible refine C.seq ?_
      | with_reducible refine C.region ?_
      | with_reducible refine C.block ?_
      | with_reducible refine J.thn ?_
      | with_reducible refine O.nil ?_
      | (show O _ _ _ _ (⟨_, .assign _, _, _, _, none⟩ :: _) _ _; first | refine O.val (Val.assignI rfl) ?_ | refine O.val (Val.assignV (by (conv => lhs; whnf); try rfl)) ?_)
      )
  obtain ⟨c, hc⟩ : ∃ c, c = min l.length most := ⟨_, rfl⟩
  have hcl : (l.take most).length = c := by rw [List.length_take, hc, Nat.min_comm]
  refine C.loopS (fun s : Nat × Nat × Value × List TokR => [(0, lv), (1, .int .i64 (most : Int)), (5, s.2.2.1), (6, .int .i64 ((s.2.1 : Nat) : Int)), (7, .int .i64 ((s.1 : Nat) : Int))]) (fun m s w => Own w0 w (rowK s.2.2.1 38 3 tokV s.2.2.2 :: L) ∧ tameF 0 (l.take most) = s.2.2.2 ++ tameF s.2.1 ((l.take most).drop s.1) ∧ s.2.1 ≤ 60 * s.1 ∧ s.2.2.2.length = s.1 ∧ s.1 ≤ c ∧ m = c - s.1) c (0, 0, .slice none 0 0, []) ⟨H.picks (by (repeat (first | exact Picks.refl | (apply Picks.cons; focus ((repeat (first | exact Pull.here | apply Pull.there)); done)) | apply Picks.drop)); first | done | fail), by simp, by simp, rfl, by simp, by simp⟩ ⟨rfl, rfl, rfl, rfl, rfl, trivial⟩ ?_
  rintro m ⟨i, n, v, out⟩ e w ⟨H, hE, hn, ho, hi, rfl⟩
  simp only at H hE hn ho hi
  dsimp only
  by_cases hil : i < c
  · have hxw := hw (l.getD i default) (by rw [List.getD_eq_getElem?_getD, List.getElem?_eq_getElem (by omega)]; exact List.getElem_mem _)
    obtain ⟨⟨ln, ds, lt⟩, hx⟩ : ∃ x, x = l.getD i default := ⟨_, rfl⟩
    have htk : (l.take most).getD i default = ⟨ln, ds, lt⟩ := by
      rw [hx, List.getD_eq_getElem?_getD, List.getElem?_take, if_pos (by omega), ← List.getD_eq_getElem?_getD]
    rw [drop_cons default (by rw [hcl]; exact hil), htk] at hE
    rw [← hx] at hxw
    have hlit := hxw.lit
    have hag : Value.agg (tokV (l.getD i default)).toArray = .agg ([.int .i64 ln, .int .i64 ds, .int .u8 (lt : Int)] : List Value).toArray := by rw [← hx]
    by_cases h0 : lowM ln 4 = 0 ∨ n = 0
    · have ht : tame1 n ⟨ln, ds, lt⟩ = (⟨0, 0, lt⟩, n + 1) := by unfold tame1; rw [if_pos h0]
      rcases Nat.eq_zero_or_pos (lowM ln 4) with h4 | h4
      all_goals
        repeat' (first
            | with_reducible refine C.seq ?_
            | with_reducible refine C.region ?_
            | with_reducible refine C.block ?_
            | with_reducible refine J.thn ?_
            | with_reducible refine O.nil ?_
            | with_reducible refine J.blkN ?_
            | with_reducible refine C.skip ?_
            | (show O _ _ _ _ (⟨some 23, .load _ _, _, _, _, none⟩ :: _) _ _; refine O.val (Val.as (Val.loadAggK default rfl (hr _ (H.has.mono (by (repeat (first | exact Sub.refl | exact Sub.nil | refine Sub.mem (by (repeat (first | exact List.mem_cons_self | refine List.mem_cons_of_mem _ ?_)); first | done | fail) ?_ | refine Sub.cons ?_)); first | done | fail))) (by omega)) hag) ?_)
            | (show O _ _ _ _ (⟨_, .alloc _, _, _, _, none⟩ :: _) _ _; refine O.alloc rfl H ?_; intro o w H)
            | (show O _ _ _ _ (⟨_, .binOp .add _ _ (.const _) _, _, _, _, none⟩ :: _) _ _; refine O.val (Val.addL rfl rfl (by first | omega | assumption | decide | with_reducible exact nself | with_reducible exact rfl)) ?_)
            | (show O _ _ _ _ (⟨_, .move _, _, _, _, none⟩ :: _) _ _; first | refine O.val (Val.moveI rfl) ?_ | refine O.val (Val.moveB rfl) ?_ | refine O.val (Val.moveV (by (conv => lhs; whnf); try rfl)) ?_)
            | (show O _ _ _ _ (⟨_, .assign _, _, _, _, none⟩ :: _) _ _; first | refine O.val (Val.assignI rfl) ?_ | refine O.val (Val.assignV (by (conv => lhs; whnf); try rfl)) ?_)
            | (show O _ _ _ _ (⟨_, .binOp .lss _ _ _ _, _, _, _, none⟩ :: _) _ _; refine O.val (Val.lss rfl rfl) ?_)
            | (show O _ _ _ _ (⟨_, .binOp .eql _ _ _ _, _, _, _, none⟩ :: _) _ _; refine O.val (Val.eql rfl rfl) ?_)
            | (show O _ _ _ _ (⟨_, .binOp .and _ _ _ _, _, _, _, none⟩ :: _) _ _; refine O.val (Val.maskI 2 4 rfl rfl (by exact rfl) (by decide) (by decide)) ?_)
            | (show O _ _ _ _ (⟨_, .fieldAddr _ _ _, _, _, _, none⟩ :: _) _ _; refine O.val (Val.fieldAddr rfl rfl) ?_)
            | (show O _ _ _ _ (⟨_, .build _ _, _, _, _, none⟩ :: _) _ _; refine O.val (Val.buildF (by (repeat (first | exact Fields.nil | (apply Fields.one; (conv => lhs; whnf); (exact (by first | rfl | exact (H.has).one (by (repeat (first | exact List.mem_cons_self | refine List.mem_cons_of_mem _ ?_)); first | done | fail) | exact (H.has).oneRo (by (repeat (first | exact List.mem_cons_self | refine List.mem_cons_of_mem _ ?_)); first | done | fail) | exact (hr _ ((H.has).mono (by (repeat (first | exact Sub.refl | exact Sub.nil | refine Sub.mem (by (repeat (first | exact List.mem_cons_self | refine List.mem_cons_of_mem _ ?_)); first | done | fail) ?_ | refine Sub.cons ?_)); first | done | fail))).one))))); first | done | fail) (by (conv => lhs; simp only [fillG, List.getElem?_cons_zero, List.getElem?_cons_succ, List.length_cons, List.length_nil, List.take_succ_cons, List.take_zero, List.drop_succ_cons, List.drop_zero, List.nil_append, List.cons_append, List.append_nil, Nat.reduceAdd, Nat.reduceLeDiff, Nat.zero_add, and_self, and_true, true_and, if_true, Nat.le_refl]); try exact rfl)) ?_)
            | (show O _ _ _ _ (⟨_, .pick _ _ _, _, _, _, none⟩ :: _) _ _; first | refine O.val (Val.pickDF rfl (by first | omega | assumption | decide | with_reducible exact nself | with_reducible exact rfl)) ?_ | refine O.val (Val.pickDT rfl (by first | omega | assumption | decide | with_reducible exact nself | with_reducible exact rfl)) ?_)
            | (show O _ _ _ _ (⟨_, .load _ _, _, _, _, none⟩ :: _) _ _; first | refine O.val (Val.loadBox rfl (H.has) (by (repeat (first | exact List.mem_cons_self | refine List.mem_cons_of_mem _ ?_)); first | done | fail) rfl) ?_ | refine O.val (Val.loadAggBox rfl (H.has) (by (repeat (first | exact List.mem_cons_self | refine List.mem_cons_of_mem _ ?_)); first | done | fail) (by exact rfl)) ?_)
            | (show O _ _ _ _ (⟨_, .indexAddr _ _ _, _, _, _, none⟩ :: _) _ _; refine O.val (Val.idxK (by (conv => lhs; whnf); try rfl) rfl (by first | exact hr _ ((H.has).mono (by (repeat (first | exact Sub.refl | exact Sub.nil | refine Sub.mem (by (repeat (first | exact List.mem_cons_self | refine List.mem_cons_of_mem _ ?_)); first | done | fail) ?_ | refine Sub.cons ?_)); first | done | fail)) | exact (H.has).row1 (by (repeat (first | exact List.mem_cons_self | refine List.mem_cons_of_mem _ ?_)); first | done | fail) | exact (H.has).ro (by (repeat (first | exact List.mem_cons_self | refine List.mem_cons_of_mem _ ?_)); first | done | fail) | exact (H.has).rowKm (by (repeat (first | exact List.mem_cons_self | refine List.mem_cons_of_mem _ ?_)); first | done | fail) (by decide)) (by first | omega | assumption | decide | with_reducible exact nself | with_reducible exact rfl)) ?_)
            | (show O _ _ _ _ (⟨_, .call { callee := .builtin .len, args := _, argTypes := _ }, _, _, _, none⟩ :: _) _ _; refine O.val (Val.len (by (conv => lhs; whnf); try rfl) (by first | exact hr _ ((H.has).mono (by (repeat (first | exact Sub.refl | exact Sub.nil | refine Sub.mem (by (repeat (first | exact List.mem_cons_self | refine List.mem_cons_of_mem _ ?_)); first | done | fail) ?_ | refine Sub.cons ?_)); first | done | fail)) | exact (H.has).row1 (by (repeat (first | exact List.mem_cons_self | refine List.mem_cons_of_mem _ ?_)); first | done | fail) | exact (H.has).ro (by (repeat (first | exact List.mem_cons_self | refine List.mem_cons_of_mem _ ?_)); first | done | fail) | exact (H.has).rowKm (by (repeat (first | exact List.mem_cons_self | refine List.mem_cons_of_mem _ ?_)); first | done | fail) (by decide))) ?_)
            | (show O _ _ _ _ (⟨_, _, _, _, _, some _⟩ :: _) _ _; first | refine O.gF rfl rfl (by first | omega | assumption | with_reducible exact nself | with_reducible exact rfl) rfl ?_ | refine O.gT rfl rfl (by first | omega | assumption | with_reducible exact nself | with_reducible exact rfl) rfl ?_ | refine O.sT rfl rfl (by first | omega | assumption | with_reducible exact nself | with_reducible exact rfl) rfl ?_)
            | (show O _ _ _ _ (⟨_, .store _ _ _, _, _, _, none⟩ :: _) _ _; (refine O.storeAgg rfl rfl (by exact rfl) (by (repeat (first | exact List.forall_mem_nil _ | refine List.forall_mem_cons.2 ⟨(by first | rfl | exact (H.has).one (by (repeat (first | exact List.mem_cons_self | refine List.mem_cons_of_mem _ ?_)); first | done | fail) | exact (H.has).oneRo (by (repeat (first | exact List.mem_cons_self | refine List.mem_cons_of_mem _ ?_)); first | done | fail) | exact (hr _ ((H.has).mono (by (repeat (first | exact Sub.refl | exact Sub.nil | refine Sub.mem (by (repeat (first | exact List.mem_cons_self | refine List.mem_cons_of_mem _ ?_)); first | done | fail) ?_ | refine Sub.cons ?_)); first | done | fail))).one), ?_⟩)); first | done | fail) H (by (repeat (first | exact SetWhole.here rfl | apply SetWhole.there)); first | done | fail) ?_; intro w H))
            | (show O _ _ _ _ (⟨_, .buildSlice _ 1 _, _, _, _, none⟩ :: _) _ _; (refine O.buildSliceK (f := tokV) (xs := [⟨_, _, _⟩]) (by (repeat (first | exact Parts.nil | (apply Parts.cons (by first | rfl | (conv => lhs; whnf))))); first | done | fail) rfl rfl (by decide) (by exact Nat.le_of_ble_eq_true rfl) H ?_; intro v w H))
            | (show O _ _ _ _ (⟨_, .call { callee := .builtin .append, args := _, argTypes := _ }, _, _, _, none⟩ :: _) _ _; (refine O.appendK (by (conv => lhs; whnf); try rfl) (by (conv => lhs; whnf); try rfl) H (by (repeat (first | exact Pull.here | apply Pull.there)); first | done | fail) (by first | exact hr _ ((H.has).mono (by (repeat (first | exact Sub.refl | exact Sub.nil | refine Sub.mem (by (repeat (first | exact List.mem_cons_self | refine List.mem_cons_of_mem _ ?_)); first | done | fail) ?_ | refine Sub.cons ?_)); first | done | fail)) | exact (H.has).row1 (by (repeat (first | exact List.mem_cons_self | refine List.mem_cons_of_mem _ ?_)); first | done | fail) | exact (H.has).ro (by (repeat (first | exact List.mem_cons_self | refine List.mem_cons_of_mem _ ?_)); first | done | fail) | exact (H.has).rowKm (by (repeat (first | exact List.mem_cons_self | refine List.mem_cons_of_mem _ ?_)); first | done | fail) (by decide)) (fun x _ q hq => recOne x q hq) (by decide) (by exact rfl) (by (try simp only [List.length_append, List.length_cons, List.length_nil, List.length_take, List.length_drop]); omega) ?_; intro v w H))
            | (show C _ _ (.cond _ _ _) _ _ _; first | with_reducible refine C.condT rfl rfl ?_ | refine C.ifT rfl (by first | omega | assumption | with_reducible exact nself | with_reducible exact rfl) ?_)
            )
        exact ⟨c - (i + 1), (i + 1, n + 1, _, _), by omega, ⟨H.picks (by (repeat (first | exact Picks.refl | (apply Picks.cons; focus ((repeat (first | exact Pull.here | apply Pull.there)); done)) | apply Picks.drop)); first | done | fail), by rw [hE]; simp only [tameF, ht, List.append_assoc, List.singleton_append], by dsimp only; omega, by simp [ho], hil, rfl⟩, ⟨rfl, rfl, rfl, rfl, rfl, trivial⟩⟩
    · have ht : tame1 n ⟨ln, ds, lt⟩ = (⟨((lowM ln 256 % 50 + 3 : Nat) : Int), ((lowM ds 65536 % n + 1 : Nat) : Int), 0⟩, n + (lowM ln 256 % 50 + 3)) := by unfold tame1; rw [if_neg h0]
      have hnp : 0 < n := by omega
      have h4 : lowM ln 4 ≠ 0 := by omega
      have hdm := Nat.mod_lt (lowM ds 65536) hnp
      repeat' (first
          | with_reducible refine C.seq ?_
          | with_reducible refine C.region ?_
          | with_reducible refine C.block ?_
          | with_reducible refine J.thn ?_
          | with_reducible refine O.nil ?_
          | with_reducible refine J.blkN ?_
          | with_reducible refine C.skip ?_
          | (show C _ _ (.region 10 _ true) _ _ _; refine C.drawnAll [1, 6] (.take 0 (.takeS 1 (.take 2 (.take 3 (.take 4 (.take 5 (.takeS 6 (.take 7 (.take 8 (.take 9 (.take 10 (.take 11 (.solo 12 .done))))))))))))) (by kernel_rfl) (by (repeat (first | with_reducible exact NoPan.body | with_reducible exact NoPan.endS | with_reducible refine NoPan.thn ?_ | with_reducible refine NoPan.blk ?_)); first | done | fail) H ?_; intro w H hS)
          | (show O _ _ _ _ (⟨some 23, .load _ _, _, _, _, none⟩ :: _) _ _; refine O.val (Val.as (Val.loadAggK default rfl (hr _ (H.has.mono (by (repeat (first | exact Sub.refl | exact Sub.nil | refine Sub.mem (by (repeat (first | exact List.mem_cons_self | refine List.mem_cons_of_mem _ ?_)); first | done | fail) ?_ | refine Sub.cons ?_)); first | done | fail))) (by omega)) hag) ?_)
          | (show O _ _ _ _ (⟨_, .alloc _, _, _, _, none⟩ :: _) _ _; refine O.alloc rfl H ?_; intro o w H)
          | (show O _ _ _ _ (⟨_, .binOp .add _ _ (.const _) _, _, _, _, none⟩ :: _) _ _; refine O.val (Val.addL rfl rfl (by first | omega | assumption | decide | with_reducible exact nself | with_reducible exact rfl)) ?_)
          | (show O _ _ _ _ (⟨_, .move _, _, _, _, none⟩ :: _) _ _; first | refine O.val (Val.moveI rfl) ?_ | refine O.val (Val.moveB rfl) ?_ | refine O.val (Val.moveV (by (conv => lhs; whnf); try rfl)) ?_)
          | (show O _ _ _ _ (⟨_, .assign _, _, _, _, none⟩ :: _) _ _; first | refine O.val (Val.assignI rfl) ?_ | refine O.val (Val.assignV (by (conv => lhs; whnf); try rfl)) ?_)
          | (show O _ _ _ _ (⟨_, .binOp .lss _ _ _ _, _, _, _, none⟩ :: _) _ _; refine O.val (Val.lss rfl rfl) ?_)
          | (show O _ _ _ _ (⟨_, .binOp .eql _ _ _ _, _, _, _, none⟩ :: _) _ _; refine O.val (Val.eql rfl rfl) ?_)
          | (show O _ _ _ _ (⟨_, .binOp .add _ _ _ _, _, _, _, none⟩ :: _) _ _; refine O.val (Val.addN rfl rfl (by first | omega | assumption | decide | with_reducible exact nself | with_reducible exact rfl)) ?_)
          | (show O _ _ _ _ (⟨_, .binOp .and _ _ _ _, _, _, _, none⟩ :: _) _ _; refine O.val (Val.maskI 2 4 rfl rfl (by exact rfl) (by decide) (by decide)) ?_)
          | (show O _ _ _ _ (⟨_, .fieldAddr _ _ _, _, _, _, none⟩ :: _) _ _; refine O.val (Val.fieldAddr rfl rfl) ?_)
          | (show O _ _ _ _ (⟨_, .pick _ _ _, _, _, _, none⟩ :: _) _ _; first | refine O.val (Val.pickDF rfl (by first | omega | assumption | decide | with_reducible exact nself | with_reducible exact rfl)) ?_ | refine O.val (Val.pickDT rfl (by first | omega | assumption | decide | with_reducible exact nself | with_reducible exact rfl)) ?_)
          | (show O _ _ _ _ (⟨_, .load _ _, _, _, _, none⟩ :: _) _ _; first | refine O.val (Val.loadBox rfl (H.has) (by (repeat (first | exact List.mem_cons_self | refine List.mem_cons_of_mem _ ?_)); first | done | fail) rfl) ?_ | refine O.val (Val.loadAggBox rfl (H.has) (by (repeat (first | exact List.mem_cons_self | refine List.mem_cons_of_mem _ ?_)); first | done | fail) (by exact rfl)) ?_)
          | (show O _ _ _ _ (⟨_, .indexAddr _ _ _, _, _, _, none⟩ :: _) _ _; refine O.val (Val.idxK (by (conv => lhs; whnf); try rfl) rfl (by first | exact hr _ ((H.has).mono (by (repeat (first | exact Sub.refl | exact Sub.nil | refine Sub.mem (by (repeat (first | exact List.mem_cons_self | refine List.mem_cons_of_mem _ ?_)); first | done | fail) ?_ | refine Sub.cons ?_)); first | done | fail)) | exact (H.has).row1 (by (repeat (first | exact List.mem_cons_self | refine List.mem_cons_of_mem _ ?_)); first | done | fail) | exact (H.has).ro (by (repeat (first | exact List.mem_cons_self | refine List.mem_cons_of_mem _ ?_)); first | done | fail) | exact (H.has).rowKm (by (repeat (first | exact List.mem_cons_self | refine List.mem_cons_of_mem _ ?_)); first | done | fail) (by decide)) (by first | omega | assumption | decide | with_reducible exact nself | with_reducible exact rfl)) ?_)
          | (show O _ _ _ _ (⟨_, .call { callee := .builtin .len, args := _, argTypes := _ }, _, _, _, none⟩ :: _) _ _; refine O.val (Val.len (by (conv => lhs; whnf); try rfl) (by first | exact hr _ ((H.has).mono (by (repeat (first | exact Sub.refl | exact Sub.nil | refine Sub.mem (by (repeat (first | exact List.mem_cons_self | refine List.mem_cons_of_mem _ ?_)); first | done | fail) ?_ | refine Sub.cons ?_)); first | done | fail)) | exact (H.has).row1 (by (repeat (first | exact List.mem_cons_self | refine List.mem_cons_of_mem _ ?_)); first | done | fail) | exact (H.has).ro (by (repeat (first | exact List.mem_cons_self | refine List.mem_cons_of_mem _ ?_)); first | done | fail) | exact (H.has).rowKm (by (repeat (first | exact List.mem_cons_self | refine List.mem_cons_of_mem _ ?_)); first | done | fail) (by decide))) ?_)
          | (show O _ _ _ _ (⟨_, _, _, _, _, some _⟩ :: _) _ _; first | refine O.gF rfl rfl (by first | omega | assumption | with_reducible exact nself | with_reducible exact rfl) rfl ?_ | refine O.gT rfl rfl (by first | omega | assumption | with_reducible exact nself | with_reducible exact rfl) rfl ?_)
          | (show O _ _ _ _ (⟨_, .store _ _ _, _, _, _, none⟩ :: _) _ _; (refine O.storeAgg rfl rfl (by exact rfl) (by (repeat (first | exact List.forall_mem_nil _ | refine List.forall_mem_cons.2 ⟨(by first | rfl | exact (H.has).one (by (repeat (first | exact List.mem_cons_self | refine List.mem_cons_of_mem _ ?_)); first | done | fail) | exact (H.has).oneRo (by (repeat (first | exact List.mem_cons_self | refine List.mem_cons_of_mem _ ?_)); first | done | fail) | exact (hr _ ((H.has).mono (by (repeat (first | exact Sub.refl | exact Sub.nil | refine Sub.mem (by (repeat (first | exact List.mem_cons_self | refine List.mem_cons_of_mem _ ?_)); first | done | fail) ?_ | refine Sub.cons ?_)); first | done | fail))).one), ?_⟩)); first | done | fail) H (by (repeat (first | exact SetWhole.here rfl | apply SetWhole.there)); first | done | fail) ?_; intro w H))
          | (show O _ _ _ _ (⟨_, .buildSlice _ 1 _, _, _, _, none⟩ :: _) _ _; (refine O.buildSliceK (f := tokV) (xs := [⟨_, _, _⟩]) (by (repeat (first | exact Parts.nil | (apply Parts.cons (by first | rfl | (conv => lhs; whnf))))); first | done | fail) rfl rfl (by decide) (by exact Nat.le_of_ble_eq_true rfl) H ?_; intro v w H))
          | (show O _ _ _ _ (⟨_, .call { callee := .builtin .append, args := _, argTypes := _ }, _, _, _, none⟩ :: _) _ _; (refine O.appendK (by (conv => lhs; whnf); try rfl) (by (conv => lhs; whnf); try rfl) H (by (repeat (first | exact Pull.here | apply Pull.there)); first | done | fail) (by first | exact hr _ ((H.has).mono (by (repeat (first | exact Sub.refl | exact Sub.nil | refine Sub.mem (by (repeat (first | exact List.mem_cons_self | refine List.mem_cons_of_mem _ ?_)); first | done | fail) ?_ | refine Sub.cons ?_)); first | done | fail)) | exact (H.has).row1 (by (repeat (first | exact List.mem_cons_self | refine List.mem_cons_of_mem _ ?_)); first | done | fail) | exact (H.has).ro (by (repeat (first | exact List.mem_cons_self | refine List.mem_cons_of_mem _ ?_)); first | done | fail) | exact (H.has).rowKm (by (repeat (first | exact List.mem_cons_self | refine List.mem_cons_of_mem _ ?_)); first | done | fail) (by decide)) (fun x _ q hq => recOne x q hq) (by decide) (by exact rfl) (by (try simp only [List.length_append, List.length_cons, List.length_nil, List.length_take, List.length_drop]); omega) ?_; intro v w H))
          | (show C _ _ (.cond _ _ _) _ _ _; first | refine C.ifT rfl (by first | omega | assumption | with_reducible exact nself | with_reducible exact rfl) ?_ | refine C.ifF rfl (by first | omega | assumption | with_reducible exact nself | with_reducible exact rfl) ?_)
          | with_reducible refine D.done ?_
          | refine D.take rfl ?_
          | refine D.takeS rfl ?_
          | refine D.solo rfl rfl ?_
          | (show DT _ _ _ _ _ _ ⟨_, .binOp .add _ _ (.const _) _, _, _, _, none⟩ _ _ _; refine DT.val (fun _ => Val.addL rfl rfl (by first | omega | assumption | decide | with_reducible exact nself | with_reducible exact rfl)) ?_)
          | (show DT _ _ _ _ _ _ ⟨_, .binOp .rem _ _ (.const _) _, _, _, _, none⟩ _ _ _; refine DT.val (fun _ => Val.remL rfl rfl (by first | omega | assumption | decide | with_reducible exact nself | with_reducible exact rfl)) ?_)
          | (show DT _ _ _ _ _ _ ⟨_, .move _, _, _, _, none⟩ _ _ _; refine DT.val (fun _ => Val.moveI rfl) ?_)
          | (show DT _ _ _ _ _ _ ⟨_, .binOp .rem _ _ _ _, _, _, _, none⟩ _ _ _; refine DT.val (fun _ => Val.remN rfl rfl (by first | omega | assumption | decide | with_reducible exact nself | with_reducible exact rfl)) ?_)
          | (show DT _ _ _ _ _ _ ⟨_, .binOp .and _ _ _ _, _, _, _, none⟩ _ _ _; first | refine DT.val (fun _ => Val.maskI 8 256 rfl rfl (by exact rfl) (by decide) (by decide)) ?_ | refine DT.val (fun _ => Val.maskI 16 65536 rfl rfl (by exact rfl) (by decide) (by decide)) ?_)
          | (show DT _ _ _ _ _ _ ⟨_, .fieldAddr _ _ _, _, _, _, none⟩ _ _ _; refine DT.val (fun _ => Val.fieldAddr rfl rfl) ?_)
          | (show DT _ _ _ _ _ _ ⟨_, .build _ _, _, _, _, none⟩ _ _ _; refine DT.val (fun _ => Val.buildF (by (repeat (first | exact Fields.nil | (apply Fields.one; (conv => lhs; whnf); (exact (by first | rfl | exact (H.has).one (by (repeat (first | exact List.mem_cons_self | refine List.mem_cons_of_mem _ ?_)); first | done | fail) | exact (H.has).oneRo (by (repeat (first | exact List.mem_cons_self | refine List.mem_cons_of_mem _ ?_)); first | done | fail) | exact (hr _ ((H.has).mono (by (repeat (first | exact Sub.refl | exact Sub.nil | refine Sub.mem (by (repeat (first | exact List.mem_cons_self | refine List.mem_cons_of_mem _ ?_)); first | done | fail) ?_ | refine Sub.cons ?_)); first | done | fail))).one))))); first | done | fail) (by (conv => lhs; simp only [fillG, List.getElem?_cons_zero, List.getElem?_cons_succ, List.length_cons, List.length_nil, List.take_succ_cons, List.take_zero, List.drop_succ_cons, List.drop_zero, List.nil_append, List.cons_append, List.append_nil, Nat.reduceAdd, Nat.reduceLeDiff, Nat.zero_add, and_self, and_true, true_and, if_true, Nat.le_refl]); try exact rfl)) ?_)
          | (show DS _ _ _ _ _ _ ⟨_, .load _ _, _, _, _, none⟩ _ _ _; refine DS.val (by first | exact hS | exact H.has.mono (by (repeat (first | exact Sub.refl | exact Sub.nil | refine Sub.mem (by (repeat (first | exact List.mem_cons_self | refine List.mem_cons_of_mem _ ?_)); first | done | fail) ?_ | refine Sub.cons ?_)); first | done | fail)) (fun _ hS => Val.loadBox rfl (hS) (by (repeat (first | exact List.mem_cons_self | refine List.mem_cons_of_mem _ ?_)); first | done | fail) rfl) ?_)
          | (show DW _ _ _ _ _ _ ⟨_, .store _ _ _, _, _, _, none⟩ _ _ _ _; (refine DW.storeAgg rfl rfl (by exact rfl) (by (repeat (first | exact List.forall_mem_nil _ | refine List.forall_mem_cons.2 ⟨(by first | rfl | exact (hS).one (by (repeat (first | exact List.mem_cons_self | refine List.mem_cons_of_mem _ ?_)); first | done | fail) | exact (hS).oneRo (by (repeat (first | exact List.mem_cons_self | refine List.mem_cons_of_mem _ ?_)); first | done | fail) | exact (hr _ ((hS).mono (by (repeat (first | exact Sub.refl | exact Sub.nil | refine Sub.mem (by (repeat (first | exact List.mem_cons_self | refine List.mem_cons_of_mem _ ?_)); first | done | fail) ?_ | refine Sub.cons ?_)); first | done | fail))).one), ?_⟩)); first | done | fail) H (by (repeat (first | exact SetWhole.here rfl | apply SetWhole.there)); first | done | fail) ?_; intro w H; refine ⟨by first | exact (fun _ _ => H.has.mono (by (repeat (first | exact Sub.refl | exact Sub.nil | refine Sub.mem (by (repeat (first | exact List.mem_cons_self | refine List.mem_cons_of_mem _ ?_)); first | done | fail) ?_ | refine Sub.cons ?_)); first | done | fail)) | exact (fun hk => absurd hk (by decide +kernel)), ?_⟩))
          )
      exact ⟨c - (i + 1), (i + 1, n + (lowM ln 256 % 50 + 3), _, _), by omega, ⟨H.picks (by (repeat (first | exact Picks.refl | (apply Picks.cons; focus ((repeat (first | exact Pull.here | apply Pull.there)); done)) | apply Picks.drop)); first | done | fail), by rw [hE]; simp only [tameF, ht, List.append_assoc, List.singleton_append], by dsimp only; omega, by simp [ho], hil, rfl⟩, ⟨rfl, rfl, rfl, rfl, rfl, trivial⟩⟩
  · have hic : i = c := by omega
    rw [List.drop_of_length_le (by rw [hcl, hic]; exact Nat.le_refl _)] at hE
    simp only [tameF, List.append_nil] at hE
    have hend : (i < l.length ∧ i = most) ∨ (i = l.length ∧ i ≤ most) := by omega
    rcases hend with hend | hend
    all_goals
      repeat' (first
          | with_reducible refine C.seq ?_
          | with_reducible refine C.region ?_
          | with_reducible refine J.thn ?_
          | with_reducible refine O.nil ?_
          | with_reducible refine C.exit ?_
          | with_reducible refine C.ret ?_
          | with_reducible refine J.thnE ?_
          | with_reducible refine J.blkE ?_
          | with_reducible refine J.bodyR ?_
          | (show O _ _ _ _ (⟨_, .move _, _, _, _, none⟩ :: _) _ _; first | refine O.val (Val.moveI rfl) ?_ | refine O.val (Val.moveB rfl) ?_ | refine O.val (Val.moveV (by (conv => lhs; whnf); try rfl)) ?_)
          | (show O _ _ _ _ (⟨_, .assign _, _, _, _, none⟩ :: _) _ _; refine O.val (Val.assignV (by (conv => lhs; whnf); try rfl)) ?_)
          | (show O _ _ _ _ (⟨_, .binOp .lss _ _ _ _, _, _, _, none⟩ :: _) _ _; refine O.val (Val.lss rfl rfl) ?_)
          | (show O _ _ _ _ (⟨_, .pick _ _ _, _, _, _, none⟩ :: _) _ _; first | refine O.val (Val.pickDF rfl (by first | omega | assumption | decide | with_reducible exact nself | with_reducible exact rfl)) ?_ | refine O.val (Val.pickDT rfl (by first | omega | assumption | decide | with_reducible exact nself | with_reducible exact rfl)) ?_)
          | (show O _ _ _ _ (⟨_, .call { callee := .builtin .len, args := _, argTypes := _ }, _, _, _, none⟩ :: _) _ _; refine O.val (Val.len (by (conv => lhs; whnf); try rfl) (by first | exact hr _ ((H.has).mono (by (repeat (first | exact Sub.refl | exact Sub.nil | refine Sub.mem (by (repeat (first | exact List.mem_cons_self | refine List.mem_cons_of_mem _ ?_)); first | done | fail) ?_ | refine Sub.cons ?_)); first | done | fail)) | exact (H.has).row1 (by (repeat (first | exact List.mem_cons_self | refine List.mem_cons_of_mem _ ?_)); first | done | fail) | exact (H.has).ro (by (repeat (first | exact List.mem_cons_self | refine List.mem_cons_of_mem _ ?_)); first | done | fail) | exact (H.has).rowKm (by (repeat (first | exact List.mem_cons_self | refine List.mem_cons_of_mem _ ?_)); first | done | fail) (by decide))) ?_)
          | (show O _ _ _ _ (⟨_, _, _, _, _, some _⟩ :: _) _ _; first | refine O.gT rfl rfl (by first | omega | assumption | with_reducible exact nself | with_reducible exact rfl) rfl ?_ | refine O.sF rfl rfl (by first | omega | assumption | with_reducible exact nself | with_reducible exact rfl) rfl ?_)
          | (show C _ _ (.cond _ _ _) _ _ _; first | with_reducible refine C.condF rfl rfl ?_ | refine C.ifF rfl (by first | omega | assumption | with_reducible exact nself | with_reducible exact rfl) ?_)
          )
      rw [hE]
      exact H.picks (by (repeat (first | exact Picks.refl | (apply Picks.cons; focus ((repeat (first | exact Pull.here | apply Pull.there)); done)) | apply Picks.drop)); first | done | fail)
end Go.Proofs.Ytcibdcfdchpnpaa.X
