/- The law BitsPeek, walked. Nothing is assumed. -/
import Derived.Test.YtmffpmmhdianeaaRev
namespace Go.Proofs.Ytmffpmmhdianeaa.X
open Go Go.RowKit
set_option linter.unusedSimpArgs false
set_option linter.unusedVariables false
set_option maxRecDepth 100000 in
theorem peekLaw_call {w0 w : World} {lv : Value} {bs : List Nat} {a z : Int} (H : Own w0 w []) (hr : Rd1 w0 [] lv (nat_ .u8) bs) (hb : Bytes bs) :
    Call Try.prog 9 #[lv, .int .i64 a, .int .i64 z] w fun r w' => r = .bool true ∧ Own w0 w' [] := by
  refine Call.of (n := 103) (rs := [6]) Try.func9 rfl rfl rfl (by decide) (Nat.le_of_ble_eq_true rfl) ?_
  have hl := (hr _ (H.has.mono (by (repeat (first | exact Sub.refl | exact Sub.nil | refine Sub.mem (by (repeat (first | exact List.mem_cons_self | refine List.mem_cons_of_mem _ ?_)); first | done | fail) ?_ | refine Sub.cons ?_)); first | done | fail))).len_le
  simp only [maxLen] at hl
  repeat' (first
      | with_reducible refine C.seq ?_
      | with_reducible refine C.region ?_
      | with_reducible refine C.block ?_
      | with_reducible refine J.thn ?_
      | with_reducible refine O.nil ?_
      | with_reducible refine J.blkN ?_
      | with_reducible refine C.skip ?_
      | with_reducible refine C.exit ?_
      | with_reducible refine C.ret ?_
      | with_reducible refine J.thnE ?_
      | with_reducible refine J.thnR ?_
      | with_reducible refine J.blkE ?_
      | with_reducible refine J.blkE' (by decide) ?_
      | with_reducible refine J.blkR ?_
      | with_reducible refine J.bodyR ?_
      | with_reducible refine J.bodyN ?_
      | (show O _ _ _ _ (⟨_, .call { callee := .value (.func 24), args := _, argTypes := _ }, _, _, _, none⟩ :: _) _ _; refine O.call rfl (awakeB_call H) ?_; rintro _ w ⟨rfl, H⟩)
      | (show O _ _ _ _ (⟨_, .call { callee := .value (.func 25), args := _, argTypes := _ }, _, _, _, none⟩ :: _) _ _; refine O.call rfl (newReader_call H hr (by omega)) ?_; rintro _ w ⟨p, bv, rfl, H⟩)
      | (show O _ _ _ _ (⟨_, .move _, _, _, _, none⟩ :: _) _ _; first | refine O.val (Val.moveI rfl) ?_ | refine O.val (Val.moveB rfl) ?_ | refine O.val (Val.moveP rfl) ?_ | refine O.val (Val.moveV (by (conv => lhs; whnf); try rfl)) ?_)
      | (show O _ _ _ _ (⟨_, .assign _, _, _, _, none⟩ :: _) _ _; first | refine O.val (Val.assignI rfl) ?_ | refine O.val (Val.assignB rfl) ?_ | refine O.val (Val.assignP rfl) ?_ | refine O.val (Val.assignV (by (conv => lhs; whnf); try rfl)) ?_)
      | (show O _ _ _ _ (⟨_, .binOp .lss _ _ _ _, _, _, _, none⟩ :: _) _ _; first | refine O.val (Val.lss rfl rfl) ?_)
      | (show O _ _ _ _ (⟨_, .binOp .gtr _ _ _ _, _, _, _, none⟩ :: _) _ _; first | refine O.val (Val.gtr rfl rfl) ?_)
      | (show O _ _ _ _ (⟨_, .binOp .eql _ _ _ _, _, _, _, none⟩ :: _) _ _; first | refine O.val (Val.eql rfl rfl) ?_ | refine O.val (Val.eqlS rfl rfl) ?_ | refine O.val (Val.eqlNilP rfl rfl) ?_ | refine O.val (Val.eqlNilS rfl rfl) ?_)
      | (show O _ _ _ _ (⟨_, .binOp .neq _ _ _ _, _, _, _, none⟩ :: _) _ _; first | refine O.val (Val.neq rfl rfl) ?_ | refine O.val (Val.neqS rfl rfl) ?_ | refine O.val (Val.neqNilP rfl rfl) ?_ | refine O.val (Val.neqNilS rfl rfl) ?_)
      | (show O _ _ _ _ (⟨_, .binOp .add _ _ _ _, _, _, _, none⟩ :: _) _ _; first | refine O.val (Val.addI rfl rfl (by first | omega | assumption)) ?_ | refine O.val (Val.addU rfl rfl rfl) ?_ | refine O.val (Val.addS rfl rfl (by first | omega | assumption)) ?_)
      | (show O _ _ _ _ (⟨_, .binOp .sub _ _ _ _, _, _, _, none⟩ :: _) _ _; first | refine O.val (Val.subI rfl rfl (by first | omega | assumption)) ?_ | refine O.val (Val.subU rfl rfl (by first | assumption | decide | ((repeat (first | assumption | decide | exact Fits.modU rfl | refine Fits.and ?_ | refine Fits.or ?_ ?_ | refine Fits.xor ?_ ?_ | refine Fits.shr ?_ | exact Fits.u8 (by first | omega | assumption) | exact Fits.u32 (by first | omega | assumption) | exact Fits.u64 (by first | omega | assumption) | exact Fits.i64 (by first | omega | assumption))); first | done | fail)) (by first | omega | assumption)) ?_)
      | (show O _ _ _ _ (⟨_, .binOp .rem _ _ _ _, _, _, _, none⟩ :: _) _ _; first | refine O.val (Val.remN rfl rfl (by first | omega | assumption)) ?_ | refine O.val (Val.remI rfl rfl (by first | omega | assumption) (by first | omega | assumption)) ?_)
      | (show O _ _ _ _ (⟨_, .binOp .and _ _ _ _, _, _, _, none⟩ :: _) _ _; first | refine O.val (Val.andN rfl rfl (by first | assumption | decide | ((repeat (first | assumption | decide | exact Fits.modU rfl | refine Fits.and ?_ | refine Fits.or ?_ ?_ | refine Fits.xor ?_ ?_ | refine Fits.shr ?_ | exact Fits.u8 (by first | omega | assumption) | exact Fits.u32 (by first | omega | assumption) | exact Fits.u64 (by first | omega | assumption) | exact Fits.i64 (by first | omega | assumption))); first | done | fail)) (by first | assumption | decide | ((repeat (first | assumption | decide | exact Fits.modU rfl | refine Fits.and ?_ | refine Fits.or ?_ ?_ | refine Fits.xor ?_ ?_ | refine Fits.shr ?_ | exact Fits.u8 (by first | omega | assumption) | exact Fits.u32 (by first | omega | assumption) | exact Fits.u64 (by first | omega | assumption) | exact Fits.i64 (by first | omega | assumption))); first | done | fail))) ?_ | refine O.val (Val.andM 16 rfl rfl (by exact rfl) (by decide)) ?_ | refine O.val (Val.andM 8 rfl rfl (by exact rfl) (by decide)) ?_ | refine O.val (Val.andM 3 rfl rfl (by exact rfl) (by decide)) ?_ | refine O.val (Val.andM 6 rfl rfl (by exact rfl) (by decide)) ?_)
      | (show O _ _ _ _ (⟨_, .binOp .shr _ _ _ _, _, _, _, none⟩ :: _) _ _; first | refine O.val (Val.shrF rfl rfl (by first | assumption | decide | ((repeat (first | assumption | decide | exact Fits.modU rfl | refine Fits.and ?_ | refine Fits.or ?_ ?_ | refine Fits.xor ?_ ?_ | refine Fits.shr ?_ | exact Fits.u8 (by first | omega | assumption) | exact Fits.u32 (by first | omega | assumption) | exact Fits.u64 (by first | omega | assumption) | exact Fits.i64 (by first | omega | assumption))); first | done | fail))) ?_)
      | (show O _ _ _ _ (⟨_, .extract _ _, _, _, _, none⟩ :: _) _ _; first | refine O.val (Val.extract rfl rfl) ?_)
      | (show O _ _ _ _ (⟨_, .pick _ _ _, _, _, _, none⟩ :: _) _ _; first | refine O.val (Val.pickT rfl rfl) ?_ | refine O.val (Val.pickF rfl rfl) ?_ | refine O.val (Val.pickDF rfl (by first | omega | assumption)) ?_ | refine O.val (Val.pickDT rfl (by first | omega | assumption)) ?_)
      | (show O _ _ _ _ (⟨_, .call { callee := .builtin .min, args := _, argTypes := _ }, _, _, _, none⟩ :: _) _ _; first | refine O.val (Val.min2 rfl rfl) ?_)
      | (show O _ _ _ _ (⟨_, .call { callee := .builtin .len, args := _, argTypes := _ }, _, _, _, none⟩ :: _) _ _; first | refine O.val (Val.lenStr rfl) ?_ | refine O.val (Val.len (by (conv => lhs; whnf); try rfl) (by first | exact (H.has).row1 (by (repeat (first | exact List.mem_cons_self | refine List.mem_cons_of_mem _ ?_)); first | done | fail) | exact (H.has).ro (by (repeat (first | exact List.mem_cons_self | refine List.mem_cons_of_mem _ ?_)); first | done | fail) | exact hr _ ((H.has).mono (by (repeat (first | exact Sub.refl | exact Sub.nil | refine Sub.mem (by (repeat (first | exact List.mem_cons_self | refine List.mem_cons_of_mem _ ?_)); first | done | fail) ?_ | refine Sub.cons ?_)); first | done | fail)))) ?_)
      | (show O _ _ _ _ (⟨_, _, _, _, _, some _⟩ :: _) _ _; first | refine O.gyes rfl rfl rfl ?_ | refine O.gno rfl rfl rfl ?_ | refine O.gF rfl rfl (by first | omega | assumption) rfl ?_ | refine O.gT rfl rfl (by first | omega | assumption) rfl ?_ | refine O.sF rfl rfl (by first | omega | assumption) rfl ?_ | refine O.sT rfl rfl (by first | omega | assumption) rfl ?_)
      | (show C _ _ (.cond _ _ _) _ _ _; first | with_reducible refine C.condT rfl rfl ?_ | with_reducible refine C.condF rfl rfl ?_ | refine C.ifT rfl (by first | omega | assumption) ?_ | refine C.ifF rfl (by first | omega | assumption) ?_ | refine C.ifd rfl (fun hif => ?_) (fun hif => ?_))
      )
  · exact ⟨rfl, H⟩
  have ha := lowN_le a 63
  refine C.loopS (fun s : Nat × Nat => [(1, .int .i64 a), (2, .int .i64 z), (7, .pointer (some ⟨p, 0, none⟩)), (8, .int .i64 ((s.1 : Nat) : Int))]) (fun c s w => Own w0 w (rdrL p bv bs s.2 []) ∧ s.2 ≤ 8 * bs.length ∧ s.1 ≤ lowN a 63 ∧ c = lowN a 63 - s.1) (lowN a 63) (0, 0) ⟨H.picks (by (repeat (first | exact Picks.refl | (apply Picks.cons; focus ((repeat (first | exact Pull.here | apply Pull.there)); done)) | apply Picks.drop)); first | done | fail), by omega, by omega, by omega⟩ ⟨rfl, rfl, rfl, rfl, trivial⟩ ?_
  rintro c ⟨i, m⟩ e w ⟨H, hm, hi, rfl⟩
  simp only at H hm hi
  rcases Nat.lt_or_ge i (lowN a 63) with hia | hia
  · have hia' : (i : Int) < (lowN a 63 : Int) := by omega
    by_cases hm1 : m + 1 ≤ 8 * bs.length
    · repeat' (first
        | with_reducible refine C.seq ?_
        | with_reducible refine C.region ?_
        | with_reducible refine C.block ?_
        | with_reducible refine J.thn ?_
        | with_reducible refine O.nil ?_
        | with_reducible refine J.blkN ?_
        | with_reducible refine C.skip ?_
        | with_reducible refine C.exit ?_
        | with_reducible refine C.ret ?_
        | with_reducible refine J.thnE ?_
        | with_reducible refine J.thnR ?_
        | with_reducible refine J.blkE ?_
        | with_reducible refine J.blkE' (by decide) ?_
        | with_reducible refine J.blkR ?_
        | with_reducible refine J.bodyR ?_
        | with_reducible refine J.bodyN ?_
        | (show O _ _ _ _ (⟨_, .call { callee := .value (.func 26), args := _, argTypes := _ }, _, _, _, none⟩ :: _) _ _; refine O.call rfl (take_yes (n := 1) H hb (by omega) hm1 (by decide)) ?_; rintro _ w ⟨rfl, H⟩)
        | (show O _ _ _ _ (⟨_, .move _, _, _, _, none⟩ :: _) _ _; first | refine O.val (Val.moveI rfl) ?_ | refine O.val (Val.moveB rfl) ?_ | refine O.val (Val.moveP rfl) ?_ | refine O.val (Val.moveV (by (conv => lhs; whnf); try rfl)) ?_)
        | (show O _ _ _ _ (⟨_, .assign _, _, _, _, none⟩ :: _) _ _; first | refine O.val (Val.assignI rfl) ?_ | refine O.val (Val.assignB rfl) ?_ | refine O.val (Val.assignP rfl) ?_ | refine O.val (Val.assignV (by (conv => lhs; whnf); try rfl)) ?_)
        | (show O _ _ _ _ (⟨_, .binOp .lss _ _ _ _, _, _, _, none⟩ :: _) _ _; first | refine O.val (Val.lss rfl rfl) ?_)
        | (show O _ _ _ _ (⟨_, .binOp .gtr _ _ _ _, _, _, _, none⟩ :: _) _ _; first | refine O.val (Val.gtr rfl rfl) ?_)
        | (show O _ _ _ _ (⟨_, .binOp .eql _ _ _ _, _, _, _, none⟩ :: _) _ _; first | refine O.val (Val.eql rfl rfl) ?_ | refine O.val (Val.eqlS rfl rfl) ?_ | refine O.val (Val.eqlNilP rfl rfl) ?_ | refine O.val (Val.eqlNilS rfl rfl) ?_)
        | (show O _ _ _ _ (⟨_, .binOp .neq _ _ _ _, _, _, _, none⟩ :: _) _ _; first | refine O.val (Val.neq rfl rfl) ?_ | refine O.val (Val.neqS rfl rfl) ?_ | refine O.val (Val.neqNilP rfl rfl) ?_ | refine O.val (Val.neqNilS rfl rfl) ?_)
        | (show O _ _ _ _ (⟨_, .binOp .add _ _ _ _, _, _, _, none⟩ :: _) _ _; first | refine O.val (Val.addI rfl rfl (by first | omega | assumption)) ?_ | refine O.val (Val.addU rfl rfl rfl) ?_ | refine O.val (Val.addS rfl rfl (by first | omega | assumption)) ?_)
        | (show O _ _ _ _ (⟨_, .binOp .sub _ _ _ _, _, _, _, none⟩ :: _) _ _; first | refine O.val (Val.subI rfl rfl (by first | omega | assumption)) ?_ | refine O.val (Val.subU rfl rfl (by first | assumption | decide | ((repeat (first | assumption | decide | exact Fits.modU rfl | refine Fits.and ?_ | refine Fits.or ?_ ?_ | refine Fits.xor ?_ ?_ | refine Fits.shr ?_ | exact Fits.u8 (by first | omega | assumption) | exact Fits.u32 (by first | omega | assumption) | exact Fits.u64 (by first | omega | assumption) | exact Fits.i64 (by first | omega | assumption))); first | done | fail)) (by first | omega | assumption)) ?_)
        | (show O _ _ _ _ (⟨_, .binOp .rem _ _ _ _, _, _, _, none⟩ :: _) _ _; first | refine O.val (Val.remN rfl rfl (by first | omega | assumption)) ?_ | refine O.val (Val.remI rfl rfl (by first | omega | assumption) (by first | omega | assumption)) ?_)
        | (show O _ _ _ _ (⟨_, .binOp .and _ _ _ _, _, _, _, none⟩ :: _) _ _; first | refine O.val (Val.andN rfl rfl (by first | assumption | decide | ((repeat (first | assumption | decide | exact Fits.modU rfl | refine Fits.and ?_ | refine Fits.or ?_ ?_ | refine Fits.xor ?_ ?_ | refine Fits.shr ?_ | exact Fits.u8 (by first | omega | assumption) | exact Fits.u32 (by first | omega | assumption) | exact Fits.u64 (by first | omega | assumption) | exact Fits.i64 (by first | omega | assumption))); first | done | fail)) (by first | assumption | decide | ((repeat (first | assumption | decide | exact Fits.modU rfl | refine Fits.and ?_ | refine Fits.or ?_ ?_ | refine Fits.xor ?_ ?_ | refine Fits.shr ?_ | exact Fits.u8 (by first | omega | assumption) | exact Fits.u32 (by first | omega | assumption) | exact Fits.u64 (by first | omega | assumption) | exact Fits.i64 (by first | omega | assumption))); first | done | fail))) ?_ | refine O.val (Val.andM 16 rfl rfl (by exact rfl) (by decide)) ?_ | refine O.val (Val.andM 8 rfl rfl (by exact rfl) (by decide)) ?_ | refine O.val (Val.andM 3 rfl rfl (by exact rfl) (by decide)) ?_ | refine O.val (Val.andM 6 rfl rfl (by exact rfl) (by decide)) ?_)
        | (show O _ _ _ _ (⟨_, .binOp .shr _ _ _ _, _, _, _, none⟩ :: _) _ _; first | refine O.val (Val.shrF rfl rfl (by first | assumption | decide | ((repeat (first | assumption | decide | exact Fits.modU rfl | refine Fits.and ?_ | refine Fits.or ?_ ?_ | refine Fits.xor ?_ ?_ | refine Fits.shr ?_ | exact Fits.u8 (by first | omega | assumption) | exact Fits.u32 (by first | omega | assumption) | exact Fits.u64 (by first | omega | assumption) | exact Fits.i64 (by first | omega | assumption))); first | done | fail))) ?_)
        | (show O _ _ _ _ (⟨_, .extract _ _, _, _, _, none⟩ :: _) _ _; first | refine O.val (Val.extract rfl rfl) ?_)
        | (show O _ _ _ _ (⟨_, .pick _ _ _, _, _, _, none⟩ :: _) _ _; first | refine O.val (Val.pickT rfl rfl) ?_ | refine O.val (Val.pickF rfl rfl) ?_ | refine O.val (Val.pickDF rfl (by first | omega | assumption)) ?_ | refine O.val (Val.pickDT rfl (by first | omega | assumption)) ?_)
        | (show O _ _ _ _ (⟨_, .call { callee := .builtin .min, args := _, argTypes := _ }, _, _, _, none⟩ :: _) _ _; first | refine O.val (Val.min2 rfl rfl) ?_)
        | (show O _ _ _ _ (⟨_, .call { callee := .builtin .len, args := _, argTypes := _ }, _, _, _, none⟩ :: _) _ _; first | refine O.val (Val.lenStr rfl) ?_ | refine O.val (Val.len (by (conv => lhs; whnf); try rfl) (by first | exact (H.has).row1 (by (repeat (first | exact List.mem_cons_self | refine List.mem_cons_of_mem _ ?_)); first | done | fail) | exact (H.has).ro (by (repeat (first | exact List.mem_cons_self | refine List.mem_cons_of_mem _ ?_)); first | done | fail))) ?_)
        | (show O _ _ _ _ (⟨_, _, _, _, _, some _⟩ :: _) _ _; first | refine O.gyes rfl rfl rfl ?_ | refine O.gno rfl rfl rfl ?_ | refine O.gF rfl rfl (by first | omega | assumption) rfl ?_ | refine O.gT rfl rfl (by first | omega | assumption) rfl ?_ | refine O.sF rfl rfl (by first | omega | assumption) rfl ?_ | refine O.sT rfl rfl (by first | omega | assumption) rfl ?_)
        | (show C _ _ (.cond _ _ _) _ _ _; first | with_reducible refine C.condT rfl rfl ?_ | with_reducible refine C.condF rfl rfl ?_ | refine C.ifT rfl (by first | omega | assumption) ?_ | refine C.ifF rfl (by first | omega | assumption) ?_ | refine C.ifd rfl (fun hif => ?_) (fun hif => ?_))
        )
      exact ⟨lowN a 63 - (i + 1), (i + 1, m + 1), by show lowN a 63 - (i + 1) < lowN a 63 - i; omega, ⟨H, hm1, hia, rfl⟩, ⟨rfl, rfl, rfl, rfl, trivial⟩⟩
    · repeat' (first
        | with_reducible refine C.seq ?_
        | with_reducible refine C.region ?_
        | with_reducible refine C.block ?_
        | with_reducible refine J.thn ?_
        | with_reducible refine O.nil ?_
        | with_reducible refine J.blkN ?_
        | with_reducible refine C.skip ?_
        | with_reducible refine C.exit ?_
        | with_reducible refine C.ret ?_
        | with_reducible refine J.thnE ?_
        | with_reducible refine J.thnR ?_
        | with_reducible refine J.blkE ?_
        | with_reducible refine J.blkE' (by decide) ?_
        | with_reducible refine J.blkR ?_
        | with_reducible refine J.bodyR ?_
        | with_reducible refine J.bodyN ?_
        | (show O _ _ _ _ (⟨_, .call { callee := .value (.func 26), args := _, argTypes := _ }, _, _, _, none⟩ :: _) _ _; refine O.call rfl (take_no (z := 1) H hb (by omega) hm (by omega)) ?_; rintro _ w ⟨rfl, H⟩)
        | (show O _ _ _ _ (⟨_, .move _, _, _, _, none⟩ :: _) _ _; first | refine O.val (Val.moveI rfl) ?_ | refine O.val (Val.moveB rfl) ?_ | refine O.val (Val.moveP rfl) ?_ | refine O.val (Val.moveV (by (conv => lhs; whnf); try rfl)) ?_)
        | (show O _ _ _ _ (⟨_, .assign _, _, _, _, none⟩ :: _) _ _; first | refine O.val (Val.assignI rfl) ?_ | refine O.val (Val.assignB rfl) ?_ | refine O.val (Val.assignP rfl) ?_ | refine O.val (Val.assignV (by (conv => lhs; whnf); try rfl)) ?_)
        | (show O _ _ _ _ (⟨_, .binOp .lss _ _ _ _, _, _, _, none⟩ :: _) _ _; first | refine O.val (Val.lss rfl rfl) ?_)
        | (show O _ _ _ _ (⟨_, .binOp .gtr _ _ _ _, _, _, _, none⟩ :: _) _ _; first | refine O.val (Val.gtr rfl rfl) ?_)
        | (show O _ _ _ _ (⟨_, .binOp .eql _ _ _ _, _, _, _, none⟩ :: _) _ _; first | refine O.val (Val.eql rfl rfl) ?_ | refine O.val (Val.eqlS rfl rfl) ?_ | refine O.val (Val.eqlNilP rfl rfl) ?_ | refine O.val (Val.eqlNilS rfl rfl) ?_)
        | (show O _ _ _ _ (⟨_, .binOp .neq _ _ _ _, _, _, _, none⟩ :: _) _ _; first | refine O.val (Val.neq rfl rfl) ?_ | refine O.val (Val.neqS rfl rfl) ?_ | refine O.val (Val.neqNilP rfl rfl) ?_ | refine O.val (Val.neqNilS rfl rfl) ?_)
        | (show O _ _ _ _ (⟨_, .binOp .add _ _ _ _, _, _, _, none⟩ :: _) _ _; first | refine O.val (Val.addI rfl rfl (by first | omega | assumption)) ?_ | refine O.val (Val.addU rfl rfl rfl) ?_ | refine O.val (Val.addS rfl rfl (by first | omega | assumption)) ?_)
        | (show O _ _ _ _ (⟨_, .binOp .sub _ _ _ _, _, _, _, none⟩ :: _) _ _; first | refine O.val (Val.subI rfl rfl (by first | omega | assumption)) ?_ | refine O.val (Val.subU rfl rfl (by first | assumption | decide | ((repeat (first | assumption | decide | exact Fits.modU rfl | refine Fits.and ?_ | refine Fits.or ?_ ?_ | refine Fits.xor ?_ ?_ | refine Fits.shr ?_ | exact Fits.u8 (by first | omega | assumption) | exact Fits.u32 (by first | omega | assumption) | exact Fits.u64 (by first | omega | assumption) | exact Fits.i64 (by first | omega | assumption))); first | done | fail)) (by first | omega | assumption)) ?_)
        | (show O _ _ _ _ (⟨_, .binOp .rem _ _ _ _, _, _, _, none⟩ :: _) _ _; first | refine O.val (Val.remN rfl rfl (by first | omega | assumption)) ?_ | refine O.val (Val.remI rfl rfl (by first | omega | assumption) (by first | omega | assumption)) ?_)
        | (show O _ _ _ _ (⟨_, .binOp .and _ _ _ _, _, _, _, none⟩ :: _) _ _; first | refine O.val (Val.andN rfl rfl (by first | assumption | decide | ((repeat (first | assumption | decide | exact Fits.modU rfl | refine Fits.and ?_ | refine Fits.or ?_ ?_ | refine Fits.xor ?_ ?_ | refine Fits.shr ?_ | exact Fits.u8 (by first | omega | assumption) | exact Fits.u32 (by first | omega | assumption) | exact Fits.u64 (by first | omega | assumption) | exact Fits.i64 (by first | omega | assumption))); first | done | fail)) (by first | assumption | decide | ((repeat (first | assumption | decide | exact Fits.modU rfl | refine Fits.and ?_ | refine Fits.or ?_ ?_ | refine Fits.xor ?_ ?_ | refine Fits.shr ?_ | exact Fits.u8 (by first | omega | assumption) | exact Fits.u32 (by first | omega | assumption) | exact Fits.u64 (by first | omega | assumption) | exact Fits.i64 (by first | omega | assumption))); first | done | fail))) ?_ | refine O.val (Val.andM 16 rfl rfl (by exact rfl) (by decide)) ?_ | refine O.val (Val.andM 8 rfl rfl (by exact rfl) (by decide)) ?_ | refine O.val (Val.andM 3 rfl rfl (by exact rfl) (by decide)) ?_ | refine O.val (Val.andM 6 rfl rfl (by exact rfl) (by decide)) ?_)
        | (show O _ _ _ _ (⟨_, .binOp .shr _ _ _ _, _, _, _, none⟩ :: _) _ _; first | refine O.val (Val.shrF rfl rfl (by first | assumption | decide | ((repeat (first | assumption | decide | exact Fits.modU rfl | refine Fits.and ?_ | refine Fits.or ?_ ?_ | refine Fits.xor ?_ ?_ | refine Fits.shr ?_ | exact Fits.u8 (by first | omega | assumption) | exact Fits.u32 (by first | omega | assumption) | exact Fits.u64 (by first | omega | assumption) | exact Fits.i64 (by first | omega | assumption))); first | done | fail))) ?_)
        | (show O _ _ _ _ (⟨_, .extract _ _, _, _, _, none⟩ :: _) _ _; first | refine O.val (Val.extract rfl rfl) ?_)
        | (show O _ _ _ _ (⟨_, .pick _ _ _, _, _, _, none⟩ :: _) _ _; first | refine O.val (Val.pickT rfl rfl) ?_ | refine O.val (Val.pickF rfl rfl) ?_ | refine O.val (Val.pickDF rfl (by first | omega | assumption)) ?_ | refine O.val (Val.pickDT rfl (by first | omega | assumption)) ?_)
        | (show O _ _ _ _ (⟨_, .call { callee := .builtin .min, args := _, argTypes := _ }, _, _, _, none⟩ :: _) _ _; first | refine O.val (Val.min2 rfl rfl) ?_)
        | (show O _ _ _ _ (⟨_, .call { callee := .builtin .len, args := _, argTypes := _ }, _, _, _, none⟩ :: _) _ _; first | refine O.val (Val.lenStr rfl) ?_ | refine O.val (Val.len (by (conv => lhs; whnf); try rfl) (by first | exact (H.has).row1 (by (repeat (first | exact List.mem_cons_self | refine List.mem_cons_of_mem _ ?_)); first | done | fail) | exact (H.has).ro (by (repeat (first | exact List.mem_cons_self | refine List.mem_cons_of_mem _ ?_)); first | done | fail))) ?_)
        | (show O _ _ _ _ (⟨_, _, _, _, _, some _⟩ :: _) _ _; first | refine O.gyes rfl rfl rfl ?_ | refine O.gno rfl rfl rfl ?_ | refine O.gF rfl rfl (by first | omega | assumption) rfl ?_ | refine O.gT rfl rfl (by first | omega | assumption) rfl ?_ | refine O.sF rfl rfl (by first | omega | assumption) rfl ?_ | refine O.sT rfl rfl (by first | omega | assumption) rfl ?_)
        | (show C _ _ (.cond _ _ _) _ _ _; first | with_reducible refine C.condT rfl rfl ?_ | with_reducible refine C.condF rfl rfl ?_ | refine C.ifT rfl (by first | omega | assumption) ?_ | refine C.ifF rfl (by first | omega | assumption) ?_ | refine C.ifd rfl (fun hif => ?_) (fun hif => ?_))
        )
      exact ⟨lowN a 63 - (i + 1), (i + 1, m), by show lowN a 63 - (i + 1) < lowN a 63 - i; omega, ⟨H, hm, hia, rfl⟩, ⟨rfl, rfl, rfl, rfl, trivial⟩⟩
  have hia' : ¬ (i : Int) < (lowN a 63 : Int) := by omega
  obtain ⟨n, hn⟩ : ∃ n, n = lowN z 255 % 33 := ⟨_, rfl⟩
  have hn32 : n ≤ 32 := by omega
  have hrem : Value.int .i64 (((lowN z 255 : Nat) : Int) % 33) = .int .i64 (n : Int) := by rw [hn, Int.natCast_emod]; rfl
  obtain ⟨k, hk⟩ : ∃ k, k = min n (8 * bs.length - m) := ⟨_, rfl⟩
  have hpk : pkN (n : Int) (8 * bs.length - m) = k := by unfold pkN; omega
  have hcl := cutN_lt (num bs) m k
  have hk32 : k ≤ 32 := by omega
  have hcf : Fits .u32 (cutN (num bs) m k) := Nat.lt_of_lt_of_le hcl (Nat.pow_le_pow_right (by decide) hk32)
  have hsh : cutN (num bs) m k >>> k = 0 := by rw [Nat.shiftRight_eq_div_pow]; exact Nat.div_eq_of_lt hcl
  have hsh0 : ¬ (((cutN (num bs) m k >>> k : Nat) : Int) ≠ 0) := by rw [hsh]; exact fun h => h rfl
  by_cases h32 : (k : Int) < 32
  · repeat' (first
      | with_reducible refine C.seq ?_
      | with_reducible refine C.region ?_
      | with_reducible refine C.block ?_
      | with_reducible refine J.thn ?_
      | with_reducible refine O.nil ?_
      | with_reducible refine J.blkN ?_
      | with_reducible refine C.skip ?_
      | with_reducible refine C.exit ?_
      | with_reducible refine C.ret ?_
      | with_reducible refine J.thnE ?_
      | with_reducible refine J.thnR ?_
      | with_reducible refine J.blkE ?_
      | with_reducible refine J.blkE' (by decide) ?_
      | with_reducible refine J.blkR ?_
      | with_reducible refine J.bodyR ?_
      | with_reducible refine J.bodyN ?_
      | (show O _ _ _ _ (⟨_, .call { callee := .value (.func 27), args := _, argTypes := _ }, _, _, _, none⟩ :: _) _ _; refine O.call rfl (rdLeft_call H (by omega) hm) ?_; rintro _ w ⟨rfl, H⟩)
      | (show O _ _ _ _ (⟨_, .call { callee := .value (.func 28), args := _, argTypes := _ }, _, _, _, none⟩ :: _) _ _; refine O.call rfl (peek_call H hb (by omega) hm) ?_; rintro _ w ⟨rfl, H⟩; rw [hpk])
      | (show O _ _ _ _ (⟨_, .call { callee := .value (.func 26), args := _, argTypes := _ }, _, _, _, none⟩ :: _) _ _; refine O.call rfl (take_yes (n := k) H hb (by omega) (by omega) hk32) ?_; rintro _ w ⟨rfl, H⟩)
      | (show O _ _ _ _ (⟨_, .call { callee := .value (.func 27), args := _, argTypes := _ }, _, _, _, none⟩ :: _) _ _; refine O.call rfl (rdLeft_call (m := m + k) H (by omega) (by omega)) ?_; rintro _ w ⟨rfl, H⟩)
      | (show O _ _ _ _ (⟨_, .call { callee := .value (.func 24), args := _, argTypes := _ }, _, _, _, none⟩ :: _) _ _; refine O.call rfl (awakeB_call H) ?_; rintro _ w ⟨rfl, H⟩)
      | (show O _ _ _ _ (⟨_, .binOp .rem _ _ _ _, _, _, _, none⟩ :: _) _ _; refine O.val (Val.as (Val.remI rfl rfl (by first | omega | assumption) (by first | omega | assumption)) hrem) ?_)
      | (show O _ _ _ _ (⟨_, .move _, _, _, _, none⟩ :: _) _ _; first | refine O.val (Val.moveI rfl) ?_ | refine O.val (Val.moveB rfl) ?_ | refine O.val (Val.moveP rfl) ?_ | refine O.val (Val.moveV (by (conv => lhs; whnf); try rfl)) ?_)
      | (show O _ _ _ _ (⟨_, .assign _, _, _, _, none⟩ :: _) _ _; first | refine O.val (Val.assignI rfl) ?_ | refine O.val (Val.assignB rfl) ?_ | refine O.val (Val.assignP rfl) ?_ | refine O.val (Val.assignV (by (conv => lhs; whnf); try rfl)) ?_)
      | (show O _ _ _ _ (⟨_, .binOp .lss _ _ _ _, _, _, _, none⟩ :: _) _ _; first | refine O.val (Val.lss rfl rfl) ?_)
      | (show O _ _ _ _ (⟨_, .binOp .gtr _ _ _ _, _, _, _, none⟩ :: _) _ _; first | refine O.val (Val.gtr rfl rfl) ?_)
      | (show O _ _ _ _ (⟨_, .binOp .eql _ _ _ _, _, _, _, none⟩ :: _) _ _; first | refine O.val (Val.eql rfl rfl) ?_ | refine O.val (Val.eqlS rfl rfl) ?_ | refine O.val (Val.eqlNilP rfl rfl) ?_ | refine O.val (Val.eqlNilS rfl rfl) ?_)
      | (show O _ _ _ _ (⟨_, .binOp .neq _ _ _ _, _, _, _, none⟩ :: _) _ _; first | refine O.val (Val.neq rfl rfl) ?_ | refine O.val (Val.neqS rfl rfl) ?_ | refine O.val (Val.neqNilP rfl rfl) ?_ | refine O.val (Val.neqNilS rfl rfl) ?_)
      | (show O _ _ _ _ (⟨_, .binOp .add _ _ _ _, _, _, _, none⟩ :: _) _ _; first | refine O.val (Val.addI rfl rfl (by first | omega | assumption)) ?_ | refine O.val (Val.addU rfl rfl rfl) ?_ | refine O.val (Val.addS rfl rfl (by first | omega | assumption)) ?_)
      | (show O _ _ _ _ (⟨_, .binOp .sub _ _ _ _, _, _, _, none⟩ :: _) _ _; first | refine O.val (Val.subI rfl rfl (by first | omega | assumption)) ?_ | refine O.val (Val.subU rfl rfl (by first | assumption | decide | ((repeat (first | assumption | decide | exact Fits.modU rfl | refine Fits.and ?_ | refine Fits.or ?_ ?_ | refine Fits.xor ?_ ?_ | refine Fits.shr ?_ | exact Fits.u8 (by first | omega | assumption) | exact Fits.u32 (by first | omega | assumption) | exact Fits.u64 (by first | omega | assumption) | exact Fits.i64 (by first | omega | assumption))); first | done | fail)) (by first | omega | assumption)) ?_)
      | (show O _ _ _ _ (⟨_, .binOp .rem _ _ _ _, _, _, _, none⟩ :: _) _ _; first | refine O.val (Val.remN rfl rfl (by first | omega | assumption)) ?_ | refine O.val (Val.remI rfl rfl (by first | omega | assumption) (by first | omega | assumption)) ?_)
      | (show O _ _ _ _ (⟨_, .binOp .and _ _ _ _, _, _, _, none⟩ :: _) _ _; first | refine O.val (Val.andN rfl rfl (by first | assumption | decide | ((repeat (first | assumption | decide | exact Fits.modU rfl | refine Fits.and ?_ | refine Fits.or ?_ ?_ | refine Fits.xor ?_ ?_ | refine Fits.shr ?_ | exact Fits.u8 (by first | omega | assumption) | exact Fits.u32 (by first | omega | assumption) | exact Fits.u64 (by first | omega | assumption) | exact Fits.i64 (by first | omega | assumption))); first | done | fail)) (by first | assumption | decide | ((repeat (first | assumption | decide | exact Fits.modU rfl | refine Fits.and ?_ | refine Fits.or ?_ ?_ | refine Fits.xor ?_ ?_ | refine Fits.shr ?_ | exact Fits.u8 (by first | omega | assumption) | exact Fits.u32 (by first | omega | assumption) | exact Fits.u64 (by first | omega | assumption) | exact Fits.i64 (by first | omega | assumption))); first | done | fail))) ?_ | refine O.val (Val.andM 16 rfl rfl (by exact rfl) (by decide)) ?_ | refine O.val (Val.andM 8 rfl rfl (by exact rfl) (by decide)) ?_ | refine O.val (Val.andM 3 rfl rfl (by exact rfl) (by decide)) ?_ | refine O.val (Val.andM 6 rfl rfl (by exact rfl) (by decide)) ?_)
      | (show O _ _ _ _ (⟨_, .binOp .shr _ _ _ _, _, _, _, none⟩ :: _) _ _; first | refine O.val (Val.shrF rfl rfl (by first | assumption | decide | ((repeat (first | assumption | decide | exact Fits.modU rfl | refine Fits.and ?_ | refine Fits.or ?_ ?_ | refine Fits.xor ?_ ?_ | refine Fits.shr ?_ | exact Fits.u8 (by first | omega | assumption) | exact Fits.u32 (by first | omega | assumption) | exact Fits.u64 (by first | omega | assumption) | exact Fits.i64 (by first | omega | assumption))); first | done | fail))) ?_)
      | (show O _ _ _ _ (⟨_, .extract _ _, _, _, _, none⟩ :: _) _ _; first | refine O.val (Val.extract rfl rfl) ?_)
      | (show O _ _ _ _ (⟨_, .pick _ _ _, _, _, _, none⟩ :: _) _ _; first | refine O.val (Val.pickT rfl rfl) ?_ | refine O.val (Val.pickF rfl rfl) ?_ | refine O.val (Val.pickDF rfl (by first | omega | assumption)) ?_ | refine O.val (Val.pickDT rfl (by first | omega | assumption)) ?_)
      | (show O _ _ _ _ (⟨_, .call { callee := .builtin .min, args := _, argTypes := _ }, _, _, _, none⟩ :: _) _ _; first | refine O.val (Val.min2 rfl rfl) ?_)
      | (show O _ _ _ _ (⟨_, .call { callee := .builtin .len, args := _, argTypes := _ }, _, _, _, none⟩ :: _) _ _; first | refine O.val (Val.lenStr rfl) ?_ | refine O.val (Val.len (by (conv => lhs; whnf); try rfl) (by first | exact (H.has).row1 (by (repeat (first | exact List.mem_cons_self | refine List.mem_cons_of_mem _ ?_)); first | done | fail) | exact (H.has).ro (by (repeat (first | exact List.mem_cons_self | refine List.mem_cons_of_mem _ ?_)); first | done | fail))) ?_)
      | (show O _ _ _ _ (⟨_, _, _, _, _, some _⟩ :: _) _ _; first | refine O.gyes rfl rfl rfl ?_ | refine O.gno rfl rfl rfl ?_ | refine O.gF rfl rfl (by first | omega | assumption) rfl ?_ | refine O.gT rfl rfl (by first | omega | assumption) rfl ?_ | refine O.sF rfl rfl (by first | omega | assumption) rfl ?_ | refine O.sT rfl rfl (by first | omega | assumption) rfl ?_)
      | (show C _ _ (.cond _ _ _) _ _ _; first | with_reducible refine C.condT rfl rfl ?_ | with_reducible refine C.condF rfl rfl ?_ | refine C.ifT rfl (by first | omega | assumption) ?_ | refine C.ifF rfl (by first | omega | assumption) ?_ | refine C.ifd rfl (fun hif => ?_) (fun hif => ?_))
      )
    exact ⟨rfl, H.picks (by (repeat (first | exact Picks.refl | (apply Picks.cons; focus ((repeat (first | exact Pull.here | apply Pull.there)); done)) | apply Picks.drop)); first | done | fail)⟩
  · repeat' (first
      | with_reducible refine C.seq ?_
      | with_reducible refine C.region ?_
      | with_reducible refine C.block ?_
      | with_reducible refine J.thn ?_
      | with_reducible refine O.nil ?_
      | with_reducible refine J.blkN ?_
      | with_reducible refine C.skip ?_
      | with_reducible refine C.exit ?_
      | with_reducible refine C.ret ?_
      | with_reducible refine J.thnE ?_
      | with_reducible refine J.thnR ?_
      | with_reducible refine J.blkE ?_
      | with_reducible refine J.blkE' (by decide) ?_
      | with_reducible refine J.blkR ?_
      | with_reducible refine J.bodyR ?_
      | with_reducible refine J.bodyN ?_
      | (show O _ _ _ _ (⟨_, .call { callee := .value (.func 27), args := _, argTypes := _ }, _, _, _, none⟩ :: _) _ _; refine O.call rfl (rdLeft_call H (by omega) hm) ?_; rintro _ w ⟨rfl, H⟩)
      | (show O _ _ _ _ (⟨_, .call { callee := .value (.func 28), args := _, argTypes := _ }, _, _, _, none⟩ :: _) _ _; refine O.call rfl (peek_call H hb (by omega) hm) ?_; rintro _ w ⟨rfl, H⟩; rw [hpk])
      | (show O _ _ _ _ (⟨_, .call { callee := .value (.func 26), args := _, argTypes := _ }, _, _, _, none⟩ :: _) _ _; refine O.call rfl (take_yes (n := k) H hb (by omega) (by omega) hk32) ?_; rintro _ w ⟨rfl, H⟩)
      | (show O _ _ _ _ (⟨_, .call { callee := .value (.func 27), args := _, argTypes := _ }, _, _, _, none⟩ :: _) _ _; refine O.call rfl (rdLeft_call (m := m + k) H (by omega) (by omega)) ?_; rintro _ w ⟨rfl, H⟩)
      | (show O _ _ _ _ (⟨_, .call { callee := .value (.func 24), args := _, argTypes := _ }, _, _, _, none⟩ :: _) _ _; refine O.call rfl (awakeB_call H) ?_; rintro _ w ⟨rfl, H⟩)
      | (show O _ _ _ _ (⟨_, .binOp .rem _ _ _ _, _, _, _, none⟩ :: _) _ _; refine O.val (Val.as (Val.remI rfl rfl (by first | omega | assumption) (by first | omega | assumption)) hrem) ?_)
      | (show O _ _ _ _ (⟨_, .move _, _, _, _, none⟩ :: _) _ _; first | refine O.val (Val.moveI rfl) ?_ | refine O.val (Val.moveB rfl) ?_ | refine O.val (Val.moveP rfl) ?_ | refine O.val (Val.moveV (by (conv => lhs; whnf); try rfl)) ?_)
      | (show O _ _ _ _ (⟨_, .assign _, _, _, _, none⟩ :: _) _ _; first | refine O.val (Val.assignI rfl) ?_ | refine O.val (Val.assignB rfl) ?_ | refine O.val (Val.assignP rfl) ?_ | refine O.val (Val.assignV (by (conv => lhs; whnf); try rfl)) ?_)
      | (show O _ _ _ _ (⟨_, .binOp .lss _ _ _ _, _, _, _, none⟩ :: _) _ _; first | refine O.val (Val.lss rfl rfl) ?_)
      | (show O _ _ _ _ (⟨_, .binOp .gtr _ _ _ _, _, _, _, none⟩ :: _) _ _; first | refine O.val (Val.gtr rfl rfl) ?_)
      | (show O _ _ _ _ (⟨_, .binOp .eql _ _ _ _, _, _, _, none⟩ :: _) _ _; first | refine O.val (Val.eql rfl rfl) ?_ | refine O.val (Val.eqlS rfl rfl) ?_ | refine O.val (Val.eqlNilP rfl rfl) ?_ | refine O.val (Val.eqlNilS rfl rfl) ?_)
      | (show O _ _ _ _ (⟨_, .binOp .neq _ _ _ _, _, _, _, none⟩ :: _) _ _; first | refine O.val (Val.neq rfl rfl) ?_ | refine O.val (Val.neqS rfl rfl) ?_ | refine O.val (Val.neqNilP rfl rfl) ?_ | refine O.val (Val.neqNilS rfl rfl) ?_)
      | (show O _ _ _ _ (⟨_, .binOp .add _ _ _ _, _, _, _, none⟩ :: _) _ _; first | refine O.val (Val.addI rfl rfl (by first | omega | assumption)) ?_ | refine O.val (Val.addU rfl rfl rfl) ?_ | refine O.val (Val.addS rfl rfl (by first | omega | assumption)) ?_)
      | (show O _ _ _ _ (⟨_, .binOp .sub _ _ _ _, _, _, _, none⟩ :: _) _ _; first | refine O.val (Val.subI rfl rfl (by first | omega | assumption)) ?_ | refine O.val (Val.subU rfl rfl (by first | assumption | decide | ((repeat (first | assumption | decide | exact Fits.modU rfl | refine Fits.and ?_ | refine Fits.or ?_ ?_ | refine Fits.xor ?_ ?_ | refine Fits.shr ?_ | exact Fits.u8 (by first | omega | assumption) | exact Fits.u32 (by first | omega | assumption) | exact Fits.u64 (by first | omega | assumption) | exact Fits.i64 (by first | omega | assumption))); first | done | fail)) (by first | omega | assumption)) ?_)
      | (show O _ _ _ _ (⟨_, .binOp .rem _ _ _ _, _, _, _, none⟩ :: _) _ _; first | refine O.val (Val.remN rfl rfl (by first | omega | assumption)) ?_ | refine O.val (Val.remI rfl rfl (by first | omega | assumption) (by first | omega | assumption)) ?_)
      | (show O _ _ _ _ (⟨_, .binOp .and _ _ _ _, _, _, _, none⟩ :: _) _ _; first | refine O.val (Val.andN rfl rfl (by first | assumption | decide | ((repeat (first | assumption | decide | exact Fits.modU rfl | refine Fits.and ?_ | refine Fits.or ?_ ?_ | refine Fits.xor ?_ ?_ | refine Fits.shr ?_ | exact Fits.u8 (by first | omega | assumption) | exact Fits.u32 (by first | omega | assumption) | exact Fits.u64 (by first | omega | assumption) | exact Fits.i64 (by first | omega | assumption))); first | done | fail)) (by first | assumption | decide | ((repeat (first | assumption | decide | exact Fits.modU rfl | refine Fits.and ?_ | refine Fits.or ?_ ?_ | refine Fits.xor ?_ ?_ | refine Fits.shr ?_ | exact Fits.u8 (by first | omega | assumption) | exact Fits.u32 (by first | omega | assumption) | exact Fits.u64 (by first | omega | assumption) | exact Fits.i64 (by first | omega | assumption))); first | done | fail))) ?_ | refine O.val (Val.andM 16 rfl rfl (by exact rfl) (by decide)) ?_ | refine O.val (Val.andM 8 rfl rfl (by exact rfl) (by decide)) ?_ | refine O.val (Val.andM 3 rfl rfl (by exact rfl) (by decide)) ?_ | refine O.val (Val.andM 6 rfl rfl (by exact rfl) (by decide)) ?_)
      | (show O _ _ _ _ (⟨_, .binOp .shr _ _ _ _, _, _, _, none⟩ :: _) _ _; first | refine O.val (Val.shrF rfl rfl (by first | assumption | decide | ((repeat (first | assumption | decide | exact Fits.modU rfl | refine Fits.and ?_ | refine Fits.or ?_ ?_ | refine Fits.xor ?_ ?_ | refine Fits.shr ?_ | exact Fits.u8 (by first | omega | assumption) | exact Fits.u32 (by first | omega | assumption) | exact Fits.u64 (by first | omega | assumption) | exact Fits.i64 (by first | omega | assumption))); first | done | fail))) ?_)
      | (show O _ _ _ _ (⟨_, .extract _ _, _, _, _, none⟩ :: _) _ _; first | refine O.val (Val.extract rfl rfl) ?_)
      | (show O _ _ _ _ (⟨_, .pick _ _ _, _, _, _, none⟩ :: _) _ _; first | refine O.val (Val.pickT rfl rfl) ?_ | refine O.val (Val.pickF rfl rfl) ?_ | refine O.val (Val.pickDF rfl (by first | omega | assumption)) ?_ | refine O.val (Val.pickDT rfl (by first | omega | assumption)) ?_)
      | (show O _ _ _ _ (⟨_, .call { callee := .builtin .min, args := _, argTypes := _ }, _, _, _, none⟩ :: _) _ _; first | refine O.val (Val.min2 rfl rfl) ?_)
      | (show O _ _ _ _ (⟨_, .call { callee := .builtin .len, args := _, argTypes := _ }, _, _, _, none⟩ :: _) _ _; first | refine O.val (Val.lenStr rfl) ?_ | refine O.val (Val.len (by (conv => lhs; whnf); try rfl) (by first | exact (H.has).row1 (by (repeat (first | exact List.mem_cons_self | refine List.mem_cons_of_mem _ ?_)); first | done | fail) | exact (H.has).ro (by (repeat (first | exact List.mem_cons_self | refine List.mem_cons_of_mem _ ?_)); first | done | fail))) ?_)
      | (show O _ _ _ _ (⟨_, _, _, _, _, some _⟩ :: _) _ _; first | refine O.gyes rfl rfl rfl ?_ | refine O.gno rfl rfl rfl ?_ | refine O.gF rfl rfl (by first | omega | assumption) rfl ?_ | refine O.gT rfl rfl (by first | omega | assumption) rfl ?_ | refine O.sF rfl rfl (by first | omega | assumption) rfl ?_ | refine O.sT rfl rfl (by first | omega | assumption) rfl ?_)
      | (show C _ _ (.cond _ _ _) _ _ _; first | with_reducible refine C.condT rfl rfl ?_ | with_reducible refine C.condF rfl rfl ?_ | refine C.ifT rfl (by first | omega | assumption) ?_ | refine C.ifF rfl (by first | omega | assumption) ?_ | refine C.ifd rfl (fun hif => ?_) (fun hif => ?_))
      )
    exact ⟨rfl, H.picks (by (repeat (first | exact Picks.refl | (apply Picks.cons; focus ((repeat (first | exact Pull.here | apply Pull.there)); done)) | apply Picks.drop)); first | done | fail)⟩
end Go.Proofs.Ytmffpmmhdianeaa.X
