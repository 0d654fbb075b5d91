/- Bits as the document has them. Nothing is assumed. -/
import Derived.Test.YtmffpmmhdianeaaLawBack
namespace Go.Proofs.Ytmffpmmhdianeaa.X
open Go Go.RowKit
set_option linter.unusedSimpArgs false
set_option linter.unusedVariables false
/-! ### bits that are put -/
abbrev outL (p : Nat) (bv : Value) (W : List Nat) (n : Nat) (L : List Res) : List Res :=
  .box p 71 [bv, .int .i64 n] :: row1 bv 5 (nat_ .u8) W :: L
theorem refPut_no {w0 w : World} {L : List Res} {p : Nat} {bv : Value} {W : List Nat} {n x : Nat} {z : Int} (H : Own w0 w (outL p bv W n L)) (hz : z < 0 ∨ 32 < z) :
    Call Try.prog 41 #[.pointer (some ⟨p, 0, none⟩), .int .u32 x, .int .i64 z] w fun r w' => r = .bool false ∧ Own w0 w' (outL p bv W n L) := by
  refine Call.of (n := 74) (rs := [6]) Try.func41 rfl rfl rfl (by decide) (Nat.le_of_ble_eq_true rfl) ?_
  rcases hz with h0 | h1
  · repeat' (first
      | with_reducible refine C.seq ?_
      | with_reducible refine C.region ?_
      | with_reducible refine J.thn ?_
      | with_reducible refine O.nil ?_
      | with_reducible refine C.ret ?_
      | with_reducible refine J.thnR ?_
      | with_reducible refine J.bodyR ?_
      | (show O _ _ _ _ (⟨_, .move _, _, _, _, none⟩ :: _) _ _; first | refine O.val (Val.moveI rfl) ?_ | refine O.val (Val.moveB rfl) ?_)
      | (show O _ _ _ _ (⟨_, .assign _, _, _, _, none⟩ :: _) _ _; refine O.val (Val.assignB rfl) ?_)
      | (show O _ _ _ _ (⟨_, .binOp .lss _ _ _ _, _, _, _, none⟩ :: _) _ _; refine O.val (Val.lss rfl rfl) ?_)
      | (show O _ _ _ _ (⟨_, .pick _ _ _, _, _, _, none⟩ :: _) _ _; refine O.val (Val.pickDT rfl (by first | omega | assumption | decide | with_reducible exact nself | with_reducible exact rfl)) ?_)
      | (show O _ _ _ _ (⟨_, _, _, _, _, some _⟩ :: _) _ _; refine O.sT rfl rfl (by first | omega | assumption | with_reducible exact nself | with_reducible exact rfl) rfl ?_)
      | (show C _ _ (.cond _ _ _) _ _ _; with_reducible refine C.condT rfl rfl ?_)
      )
    exact ⟨rfl, H⟩
  · repeat' (first
      | with_reducible refine C.seq ?_
      | with_reducible refine C.region ?_
      | with_reducible refine J.thn ?_
      | with_reducible refine O.nil ?_
      | with_reducible refine C.ret ?_
      | with_reducible refine J.thnR ?_
      | with_reducible refine J.bodyR ?_
      | (show O _ _ _ _ (⟨_, .move _, _, _, _, none⟩ :: _) _ _; first | refine O.val (Val.moveI rfl) ?_ | refine O.val (Val.moveB rfl) ?_)
      | (show O _ _ _ _ (⟨_, .assign _, _, _, _, none⟩ :: _) _ _; refine O.val (Val.assignB rfl) ?_)
      | (show O _ _ _ _ (⟨_, .binOp .lss _ _ _ _, _, _, _, none⟩ :: _) _ _; refine O.val (Val.lss rfl rfl) ?_)
      | (show O _ _ _ _ (⟨_, .binOp .gtr _ _ _ _, _, _, _, none⟩ :: _) _ _; refine O.val (Val.gtr rfl rfl) ?_)
      | (show O _ _ _ _ (⟨_, .pick _ _ _, _, _, _, none⟩ :: _) _ _; refine O.val (Val.pickDF rfl (by first | omega | assumption | decide | with_reducible exact nself | with_reducible exact rfl)) ?_)
      | (show O _ _ _ _ (⟨_, _, _, _, _, some _⟩ :: _) _ _; refine O.gF rfl rfl (by first | omega | assumption | with_reducible exact nself | with_reducible exact rfl) rfl ?_)
      | (show C _ _ (.cond _ _ _) _ _ _; refine C.ifT rfl (by first | omega | assumption | with_reducible exact nself | with_reducible exact rfl) ?_)
      )
    exact ⟨rfl, H⟩
set_option maxRecDepth 100000 in
theorem refPut_yes {w0 w : World} {L : List Res} {p : Nat} {bv : Value} {W : List Nat} {N n x k : Nat} (H : Own w0 w (outL p bv W n L)) (hB : Bits W N n) (hn : n ≤ 1000000) (hk : k ≤ 32) (hv : Fits .u32 x) :
    Call Try.prog 41 #[.pointer (some ⟨p, 0, none⟩), .int .u32 x, .int .i64 (k : Int)] w fun r w' => r = .bool true ∧ ∃ bv' W', Bits W' (N + (x % 2 ^ k) * 2 ^ n) (n + k) ∧ Own w0 w' (outL p bv' W' (n + k) L) := by
  refine Call.of (n := 74) (rs := [6]) Try.func41 rfl rfl rfl (by decide) (Nat.le_of_ble_eq_true rfl) ?_
  repeat' (first
      | with_reducible refine C.seq ?_
      | with_reducible refine C.region ?_
      | with_reducible refine C.block ?_
      | with_reducible refine J.thn ?_
      | with_reducible refine O.nil ?_
      | with_reducible refine C.skip ?_
      | (show O _ _ _ _ (⟨_, .move _, _, _, _, none⟩ :: _) _ _; first | refine O.val (Val.moveI rfl) ?_ | refine O.val (Val.moveB rfl) ?_)
      | (show O _ _ _ _ (⟨_, .assign _, _, _, _, none⟩ :: _) _ _; first | refine O.val (Val.assignI rfl) ?_ | refine O.val (Val.assignB rfl) ?_)
      | (show O _ _ _ _ (⟨_, .binOp .lss _ _ _ _, _, _, _, none⟩ :: _) _ _; refine O.val (Val.lss rfl rfl) ?_)
      | (show O _ _ _ _ (⟨_, .binOp .gtr _ _ _ _, _, _, _, none⟩ :: _) _ _; refine O.val (Val.gtr rfl rfl) ?_)
      | (show O _ _ _ _ (⟨_, .pick _ _ _, _, _, _, none⟩ :: _) _ _; refine O.val (Val.pickF rfl rfl) ?_)
      | (show O _ _ _ _ (⟨_, _, _, _, _, some _⟩ :: _) _ _; refine O.gyes rfl rfl rfl ?_)
      | (show C _ _ (.cond _ _ _) _ _ _; refine C.ifF rfl (by first | omega | assumption | with_reducible exact nself | with_reducible exact rfl) ?_)
      )
  refine C.loopS (fun s : Nat × Value × List Nat => [(0, .pointer (some ⟨p, 0, none⟩)), (1, .int .u32 x), (2, .int .i64 (k : Int)), (7, .int .i64 ((s.1 : Nat) : Int))]) (fun c s w => Own w0 w (outL p s.2.1 s.2.2 (n + s.1) L) ∧ Bits s.2.2 (N + (x % 2 ^ s.1) * 2 ^ n) (n + s.1) ∧ s.1 ≤ k ∧ c = k - s.1) k (0, bv, W) ⟨H, by simpa [Nat.mod_one] using hB, by omega, by omega⟩ ⟨rfl, rfl, rfl, rfl, trivial⟩ ?_
  rintro c ⟨i, v1, V⟩ e w ⟨H, hV, hi, rfl⟩
  simp only at H hV hi
  have hlen := hV.len
  have hbf : Fits .u8 ((x >>> i) % 2) := Fits.u8 (by omega)
  have hbit : (x >>> i) % 2 ≤ 1 := by omega
  have hfm : Fits .u64 ((n + i) % 8) := Fits.u64 (by omega)
  have hfi : Fits .u64 i := Fits.u64 (by omega)
  have hvs : Fits .u32 (x >>> i) := hv.shr
  have hnum : N + x % 2 ^ i * 2 ^ n + ((x >>> i) % 2) * 2 ^ (n + i) = N + x % 2 ^ (i + 1) * 2 ^ n := by
    have h2 : (x >>> i) &&& 1 = (x >>> i) % 2 := Nat.and_two_pow_sub_one_eq_mod _ 1
    rw [low_succ, h2, Nat.add_mul, Nat.pow_add, Nat.mul_comm (2 ^ n) (2 ^ i), ← Nat.mul_assoc, Nat.add_assoc]
  by_cases hik : i < k
  · by_cases hz : (n + i) % 8 = 0
    · have hgb : (V ++ [0]).getD ((n + i) / 8) 0 < 256 := (hV.bytes.append (fun x hx => by rw [List.mem_singleton.1 hx]; decide)).at _
      have hlt : (n + i) / 8 < (V ++ [0]).length := by simp; omega
      have hput := Bits.put (hV.bytes.append (fun y hy => by rw [List.mem_singleton.1 hy]; decide)) (by simp; omega) hV.room hV.lt hbit
      have e1 : (V ++ [0]).length - 1 = (n + i) / 8 := by simp; omega
      rw [e1, hnum] at hput
      repeat' (first
          | with_reducible refine C.seq ?_
          | with_reducible refine C.region ?_
          | with_reducible refine C.block ?_
          | with_reducible refine J.thn ?_
          | with_reducible refine O.nil ?_
          | with_reducible refine J.blkN ?_
          | with_reducible refine C.skip ?_
          | (show C _ _ (.region 8 _ true) _ _ _; refine C.drawnAll [3, 7, 12, 16, 18, 19, 24, 28, 32] (.take 0 (.take 1 (.take 2 (.takeS 3 (.take 4 (.take 5 (.take 6 (.takeS 7 (.take 8 (.take 9 (.take 10 (.take 11 (.takeS 12 (.take 13 (.take 14 (.take 15 (.takeS 16 (.take 17 (.takeS 18 (.takeS 19 (.take 20 (.take 21 (.take 22 (.take 23 (.takeS 24 (.take 25 (.take 26 (.take 27 (.takeS 28 (.take 29 (.take 30 (.take 31 (.takeS 32 (.solo 33 .done)))))))))))))))))))))))))))))))))) (by kernel_rfl) (by (repeat (first | with_reducible exact NoPan.body | with_reducible exact NoPan.endS | with_reducible refine NoPan.thn ?_ | with_reducible refine NoPan.blk ?_)); first | done | fail) H ?_; intro w H hS)
          | (show O _ _ _ _ (⟨_, .binOp .add _ _ (.const _) _, _, _, _, none⟩ :: _) _ _; refine O.val (Val.addL rfl rfl (by first | omega | assumption | decide | with_reducible exact nself | with_reducible exact rfl)) ?_)
          | (show O _ _ _ _ (⟨_, .binOp .rem _ _ (.const _) _, _, _, _, none⟩ :: _) _ _; refine O.val (Val.remL rfl rfl (by first | omega | assumption | decide | with_reducible exact nself | with_reducible exact rfl)) ?_)
          | (show O _ _ _ _ (⟨_, .move _, _, _, _, none⟩ :: _) _ _; first | refine O.val (Val.moveI rfl) ?_ | refine O.val (Val.moveP rfl) ?_)
          | (show O _ _ _ _ (⟨_, .assign _, _, _, _, none⟩ :: _) _ _; refine O.val (Val.assignI rfl) ?_)
          | (show O _ _ _ _ (⟨_, .binOp .lss _ _ _ _, _, _, _, none⟩ :: _) _ _; refine O.val (Val.lss rfl rfl) ?_)
          | (show O _ _ _ _ (⟨_, .binOp .eql _ _ _ _, _, _, _, none⟩ :: _) _ _; refine O.val (Val.eql rfl rfl) ?_)
          | (show O _ _ _ _ (⟨_, .nilCheck _, _, _, _, none⟩ :: _) _ _; refine O.val (Val.nilCheck rfl) ?_)
          | (show O _ _ _ _ (⟨_, .fieldAddr _ _ _, _, _, _, none⟩ :: _) _ _; refine O.val (Val.fieldAddr rfl rfl) ?_)
          | (show O _ _ _ _ (⟨_, .load _ _, _, _, _, none⟩ :: _) _ _; refine O.val (Val.loadBox rfl (H.has) (by (repeat (first | exact List.mem_cons_self | refine List.mem_cons_of_mem _ ?_)); first | done | fail) rfl) ?_)
          | (show O _ _ _ _ (⟨_, .store _ _ _, _, _, _, none⟩ :: _) _ _; (refine O.storeBox rfl (by (conv => lhs; whnf); try rfl) (by first | rfl | exact (H.has).one (by (repeat (first | exact List.mem_cons_self | refine List.mem_cons_of_mem _ ?_)); first | done | fail) | exact (H.has).oneRo (by (repeat (first | exact List.mem_cons_self | refine List.mem_cons_of_mem _ ?_)); first | done | fail)) H (by (repeat (first | exact List.mem_cons_self | refine List.mem_cons_of_mem _ ?_)); first | done | fail) (by exact Nat.le_of_ble_eq_true rfl) (by (repeat (first | exact SetBox.here | apply SetBox.there)); first | done | fail) ?_; intro w H))
          | (show O _ _ _ _ (⟨_, .buildSlice _ 1 _, _, _, _, none⟩ :: _) _ _; (refine O.buildSlice (f := nat_ .u8) (xs := [_]) rfl rfl (fun _ _ => rfl) rfl (Nat.le_of_ble_eq_true rfl) H ?_; intro v w H))
          | (show O _ _ _ _ (⟨_, .call { callee := .builtin .append, args := _, argTypes := _ }, _, _, _, none⟩ :: _) _ _; (refine O.append (by (conv => lhs; whnf); try rfl) (by (conv => lhs; whnf); try rfl) H (by (repeat (first | exact Pull.here | apply Pull.there)); first | done | fail) (by first | exact (H.has).row1 (by (repeat (first | exact List.mem_cons_self | refine List.mem_cons_of_mem _ ?_)); first | done | fail) | exact (H.has).ro (by (repeat (first | exact List.mem_cons_self | refine List.mem_cons_of_mem _ ?_)); first | done | fail)) (fun _ _ => rfl) rfl (by (try simp only [List.length_append, List.length_cons, List.length_nil, List.length_take, List.length_drop]); omega) ?_; intro v w H))
          | (show C _ _ (.cond _ _ _) _ _ _; refine C.ifT rfl (by first | omega | assumption | with_reducible exact nself | with_reducible exact rfl) ?_)
          | with_reducible refine D.done ?_
          | refine D.take rfl ?_
          | refine D.takeS rfl ?_
          | refine D.solo rfl rfl ?_
          | (show DT _ _ _ _ _ _ ⟨_, .binOp .quo _ _ (.const _) _, _, _, _, none⟩ _ _ _; refine DT.val (fun _ => Val.quoL rfl rfl (by first | omega | assumption | decide | with_reducible exact nself | with_reducible exact rfl) (by first | omega | assumption | decide | with_reducible exact nself | with_reducible exact rfl)) ?_)
          | (show DT _ _ _ _ _ _ ⟨_, .binOp .rem _ _ (.const _) _, _, _, _, none⟩ _ _ _; refine DT.val (fun _ => Val.remL rfl rfl (by first | omega | assumption | decide | with_reducible exact nself | with_reducible exact rfl)) ?_)
          | (show DT _ _ _ _ _ _ ⟨_, .move _, _, _, _, none⟩ _ _ _; first | refine DT.val (fun _ => Val.moveI rfl) ?_ | refine DT.val (fun _ => Val.moveP rfl) ?_)
          | (show DT _ _ _ _ _ _ ⟨_, .binOp .and _ _ _ _, _, _, _, none⟩ _ _ _; refine DT.val (fun _ => Val.maskU 1 2 rfl rfl (by first | assumption | decide | ((repeat (first | assumption | decide | exact Fits.modU rfl | refine Fits.and ?_ | refine Fits.or ?_ ?_ | refine Fits.xor ?_ ?_ | refine Fits.shr ?_ | exact Fits.u8 (by first | omega | assumption) | exact Fits.u32 (by first | omega | assumption) | exact Fits.u64 (by first | omega | assumption) | exact Fits.i64 (by first | omega | assumption))); first | done | fail)) (by first | assumption | decide | ((repeat (first | assumption | decide | exact Fits.modU rfl | refine Fits.and ?_ | refine Fits.or ?_ ?_ | refine Fits.xor ?_ ?_ | refine Fits.shr ?_ | exact Fits.u8 (by first | omega | assumption) | exact Fits.u32 (by first | omega | assumption) | exact Fits.u64 (by first | omega | assumption) | exact Fits.i64 (by first | omega | assumption))); first | done | fail)) (by exact rfl) (by decide)) ?_)
          | (show DT _ _ _ _ _ _ ⟨_, .binOp .or _ _ _ _, _, _, _, none⟩ _ _ _; refine DT.val (fun _ => Val.orN rfl rfl (by first | assumption | decide | ((repeat (first | assumption | decide | exact Fits.modU rfl | refine Fits.and ?_ | refine Fits.or ?_ ?_ | refine Fits.xor ?_ ?_ | refine Fits.shr ?_ | exact Fits.u8 (by first | omega | assumption) | exact Fits.u32 (by first | omega | assumption) | exact Fits.u64 (by first | omega | assumption) | exact Fits.i64 (by first | omega | assumption))); first | done | fail)) (by first | assumption | decide | ((repeat (first | assumption | decide | exact Fits.modU rfl | refine Fits.and ?_ | refine Fits.or ?_ ?_ | refine Fits.xor ?_ ?_ | refine Fits.shr ?_ | exact Fits.u8 (by first | omega | assumption) | exact Fits.u32 (by first | omega | assumption) | exact Fits.u64 (by first | omega | assumption) | exact Fits.i64 (by first | omega | assumption))); first | done | fail))) ?_)
          | (show DT _ _ _ _ _ _ ⟨_, .binOp .shr _ _ _ _, _, _, _, none⟩ _ _ _; refine DT.val (fun _ => Val.shrF rfl rfl (by first | assumption | decide | ((repeat (first | assumption | decide | exact Fits.modU rfl | refine Fits.and ?_ | refine Fits.or ?_ ?_ | refine Fits.xor ?_ ?_ | refine Fits.shr ?_ | exact Fits.u8 (by first | omega | assumption) | exact Fits.u32 (by first | omega | assumption) | exact Fits.u64 (by first | omega | assumption) | exact Fits.i64 (by first | omega | assumption))); first | done | fail))) ?_)
          | (show DT _ _ _ _ _ _ ⟨_, .binOp .shl _ _ _ _, _, _, _, none⟩ _ _ _; refine DT.val (fun _ => Val.shlU rfl rfl rfl) ?_)
          | (show DT _ _ _ _ _ _ ⟨_, .nilCheck _, _, _, _, none⟩ _ _ _; refine DT.val (fun _ => Val.nilCheck rfl) ?_)
          | (show DT _ _ _ _ _ _ ⟨_, .fieldAddr _ _ _, _, _, _, none⟩ _ _ _; refine DT.val (fun _ => Val.fieldAddr rfl rfl) ?_)
          | (show DS _ _ _ _ _ _ ⟨_, .convert _ _ _, _, _, _, none⟩ _ _ _; refine DS.val (by first | exact hS | exact H.has.mono (by (repeat (first | exact Sub.refl | exact Sub.nil | refine Sub.mem (by (repeat (first | exact List.mem_cons_self | refine List.mem_cons_of_mem _ ?_)); first | done | fail) ?_ | refine Sub.cons ?_)); first | done | fail)) (fun _ hS => Val.convN rfl (by first | assumption | decide | ((repeat (first | assumption | decide | exact Fits.modU rfl | refine Fits.and ?_ | refine Fits.or ?_ ?_ | refine Fits.xor ?_ ?_ | refine Fits.shr ?_ | exact Fits.u8 (by first | omega | assumption) | exact Fits.u32 (by first | omega | assumption) | exact Fits.u64 (by first | omega | assumption) | exact Fits.i64 (by first | omega | assumption))); first | done | fail))) ?_)
          | (show DS _ _ _ _ _ _ ⟨_, .load _ _, _, _, _, none⟩ _ _ _; first | refine DS.val (by first | exact hS | exact H.has.mono (by (repeat (first | exact Sub.refl | exact Sub.nil | refine Sub.mem (by (repeat (first | exact List.mem_cons_self | refine List.mem_cons_of_mem _ ?_)); first | done | fail) ?_ | refine Sub.cons ?_)); first | done | fail)) (fun _ hS => Val.loadBox rfl (hS) (by (repeat (first | exact List.mem_cons_self | refine List.mem_cons_of_mem _ ?_)); first | done | fail) rfl) ?_ | refine DS.val (by first | exact hS | exact H.has.mono (by (repeat (first | exact Sub.refl | exact Sub.nil | refine Sub.mem (by (repeat (first | exact List.mem_cons_self | refine List.mem_cons_of_mem _ ?_)); first | done | fail) ?_ | refine Sub.cons ?_)); first | done | fail)) (fun _ hS => Val.loadAtN rfl (by first | exact (hS).row1 (by (repeat (first | exact List.mem_cons_self | refine List.mem_cons_of_mem _ ?_)); first | done | fail) | exact (hS).ro (by (repeat (first | exact List.mem_cons_self | refine List.mem_cons_of_mem _ ?_)); first | done | fail)) (by first | omega | assumption | decide | with_reducible exact nself | with_reducible exact rfl)) ?_)
          | (show DS _ _ _ _ _ _ ⟨_, .indexAddr _ _ _, _, _, _, none⟩ _ _ _; refine DS.val (by first | exact hS | exact H.has.mono (by (repeat (first | exact Sub.refl | exact Sub.nil | refine Sub.mem (by (repeat (first | exact List.mem_cons_self | refine List.mem_cons_of_mem _ ?_)); first | done | fail) ?_ | refine Sub.cons ?_)); first | done | fail)) (fun _ hS => Val.idx1 (by (conv => lhs; whnf); try rfl) rfl (by first | exact (hS).row1 (by (repeat (first | exact List.mem_cons_self | refine List.mem_cons_of_mem _ ?_)); first | done | fail) | exact (hS).ro (by (repeat (first | exact List.mem_cons_self | refine List.mem_cons_of_mem _ ?_)); first | done | fail)) (by first | omega | assumption | decide | with_reducible exact nself | with_reducible exact rfl)) ?_)
          | (show DW _ _ _ _ _ _ ⟨_, .store _ _ _, _, _, _, none⟩ _ _ _ _; (refine DW.storeRow (f := nat_ .u8) rfl rfl rfl H (by (repeat (first | exact SetRow.here (by first | omega | assumption) | apply SetRow.there)); first | done | fail) ?_; intro w H; refine ⟨by first | exact (fun _ _ => H.has.mono (by (repeat (first | exact Sub.refl | exact Sub.nil | refine Sub.mem (by (repeat (first | exact List.mem_cons_self | refine List.mem_cons_of_mem _ ?_)); first | done | fail) ?_ | refine Sub.cons ?_)); first | done | fail)) | exact (fun hk => absurd hk (by decide +kernel)), ?_⟩))
          )
      exact ⟨k - (i + 1), (i + 1, _, _), by show k - (i + 1) < k - i; omega, ⟨H.picks (by (repeat (first | exact Picks.refl | (apply Picks.cons; focus ((repeat (first | exact Pull.here | apply Pull.there)); done)) | apply Picks.drop)); first | done | fail), hput, hik, rfl⟩, ⟨rfl, rfl, rfl, rfl, trivial⟩⟩
    · have hgb : V.getD ((n + i) / 8) 0 < 256 := hV.bytes.at _
      have hlt : (n + i) / 8 < V.length := by omega
      have hput := Bits.put hV.bytes (by omega) hV.num hV.lt hbit
      have e1 : V.length - 1 = (n + i) / 8 := by omega
      rw [e1, hnum] at hput
      repeat' (first
          | with_reducible refine C.seq ?_
          | with_reducible refine C.region ?_
          | with_reducible refine C.block ?_
          | with_reducible refine J.thn ?_
          | with_reducible refine O.nil ?_
          | with_reducible refine J.blkN ?_
          | with_reducible refine C.skip ?_
          | (show C _ _ (.region 8 _ true) _ _ _; refine C.drawnAll [3, 7, 12, 16, 18, 19, 24, 28, 32] (.take 0 (.take 1 (.take 2 (.takeS 3 (.take 4 (.take 5 (.take 6 (.takeS 7 (.take 8 (.take 9 (.take 10 (.take 11 (.takeS 12 (.take 13 (.take 14 (.take 15 (.takeS 16 (.take 17 (.takeS 18 (.takeS 19 (.take 20 (.take 21 (.take 22 (.take 23 (.takeS 24 (.take 25 (.take 26 (.take 27 (.takeS 28 (.take 29 (.take 30 (.take 31 (.takeS 32 (.solo 33 .done)))))))))))))))))))))))))))))))))) (by kernel_rfl) (by (repeat (first | with_reducible exact NoPan.body | with_reducible exact NoPan.endS | with_reducible refine NoPan.thn ?_ | with_reducible refine NoPan.blk ?_)); first | done | fail) H ?_; intro w H hS)
          | (show O _ _ _ _ (⟨_, .binOp .add _ _ (.const _) _, _, _, _, none⟩ :: _) _ _; refine O.val (Val.addL rfl rfl (by first | omega | assumption | decide | with_reducible exact nself | with_reducible exact rfl)) ?_)
          | (show O _ _ _ _ (⟨_, .binOp .rem _ _ (.const _) _, _, _, _, none⟩ :: _) _ _; refine O.val (Val.remL rfl rfl (by first | omega | assumption | decide | with_reducible exact nself | with_reducible exact rfl)) ?_)
          | (show O _ _ _ _ (⟨_, .move _, _, _, _, none⟩ :: _) _ _; first | refine O.val (Val.moveI rfl) ?_ | refine O.val (Val.moveP rfl) ?_)
          | (show O _ _ _ _ (⟨_, .assign _, _, _, _, none⟩ :: _) _ _; refine O.val (Val.assignI rfl) ?_)
          | (show O _ _ _ _ (⟨_, .binOp .lss _ _ _ _, _, _, _, none⟩ :: _) _ _; refine O.val (Val.lss rfl rfl) ?_)
          | (show O _ _ _ _ (⟨_, .binOp .eql _ _ _ _, _, _, _, none⟩ :: _) _ _; refine O.val (Val.eql rfl rfl) ?_)
          | (show O _ _ _ _ (⟨_, .nilCheck _, _, _, _, none⟩ :: _) _ _; refine O.val (Val.nilCheck rfl) ?_)
          | (show O _ _ _ _ (⟨_, .fieldAddr _ _ _, _, _, _, none⟩ :: _) _ _; refine O.val (Val.fieldAddr rfl rfl) ?_)
          | (show O _ _ _ _ (⟨_, .load _ _, _, _, _, none⟩ :: _) _ _; refine O.val (Val.loadBox rfl (H.has) (by (repeat (first | exact List.mem_cons_self | refine List.mem_cons_of_mem _ ?_)); first | done | fail) rfl) ?_)
          | (show O _ _ _ _ (⟨_, .store _ _ _, _, _, _, none⟩ :: _) _ _; (refine O.storeBox rfl (by (conv => lhs; whnf); try rfl) (by first | rfl | exact (H.has).one (by (repeat (first | exact List.mem_cons_self | refine List.mem_cons_of_mem _ ?_)); first | done | fail) | exact (H.has).oneRo (by (repeat (first | exact List.mem_cons_self | refine List.mem_cons_of_mem _ ?_)); first | done | fail)) H (by (repeat (first | exact List.mem_cons_self | refine List.mem_cons_of_mem _ ?_)); first | done | fail) (by exact Nat.le_of_ble_eq_true rfl) (by (repeat (first | exact SetBox.here | apply SetBox.there)); first | done | fail) ?_; intro w H))
          | (show C _ _ (.cond _ _ _) _ _ _; first | refine C.ifT rfl (by first | omega | assumption | with_reducible exact nself | with_reducible exact rfl) ?_ | refine C.ifF rfl (by first | omega | assumption | with_reducible exact nself | with_reducible exact rfl) ?_)
          | with_reducible refine D.done ?_
          | refine D.take rfl ?_
          | refine D.takeS rfl ?_
          | refine D.solo rfl rfl ?_
          | (show DT _ _ _ _ _ _ ⟨_, .binOp .quo _ _ (.const _) _, _, _, _, none⟩ _ _ _; refine DT.val (fun _ => Val.quoL rfl rfl (by first | omega | assumption | decide | with_reducible exact nself | with_reducible exact rfl) (by first | omega | assumption | decide | with_reducible exact nself | with_reducible exact rfl)) ?_)
          | (show DT _ _ _ _ _ _ ⟨_, .binOp .rem _ _ (.const _) _, _, _, _, none⟩ _ _ _; refine DT.val (fun _ => Val.remL rfl rfl (by first | omega | assumption | decide | with_reducible exact nself | with_reducible exact rfl)) ?_)
          | (show DT _ _ _ _ _ _ ⟨_, .move _, _, _, _, none⟩ _ _ _; first | refine DT.val (fun _ => Val.moveI rfl) ?_ | refine DT.val (fun _ => Val.moveP rfl) ?_)
          | (show DT _ _ _ _ _ _ ⟨_, .binOp .and _ _ _ _, _, _, _, none⟩ _ _ _; refine DT.val (fun _ => Val.maskU 1 2 rfl rfl (by first | assumption | decide | ((repeat (first | assumption | decide | exact Fits.modU rfl | refine Fits.and ?_ | refine Fits.or ?_ ?_ | refine Fits.xor ?_ ?_ | refine Fits.shr ?_ | exact Fits.u8 (by first | omega | assumption) | exact Fits.u32 (by first | omega | assumption) | exact Fits.u64 (by first | omega | assumption) | exact Fits.i64 (by first | omega | assumption))); first | done | fail)) (by first | assumption | decide | ((repeat (first | assumption | decide | exact Fits.modU rfl | refine Fits.and ?_ | refine Fits.or ?_ ?_ | refine Fits.xor ?_ ?_ | refine Fits.shr ?_ | exact Fits.u8 (by first | omega | assumption) | exact Fits.u32 (by first | omega | assumption) | exact Fits.u64 (by first | omega | assumption) | exact Fits.i64 (by first | omega | assumption))); first | done | fail)) (by exact rfl) (by decide)) ?_)
          | (show DT _ _ _ _ _ _ ⟨_, .binOp .or _ _ _ _, _, _, _, none⟩ _ _ _; refine DT.val (fun _ => Val.orN rfl rfl (by first | assumption | decide | ((repeat (first | assumption | decide | exact Fits.modU rfl | refine Fits.and ?_ | refine Fits.or ?_ ?_ | refine Fits.xor ?_ ?_ | refine Fits.shr ?_ | exact Fits.u8 (by first | omega | assumption) | exact Fits.u32 (by first | omega | assumption) | exact Fits.u64 (by first | omega | assumption) | exact Fits.i64 (by first | omega | assumption))); first | done | fail)) (by first | assumption | decide | ((repeat (first | assumption | decide | exact Fits.modU rfl | refine Fits.and ?_ | refine Fits.or ?_ ?_ | refine Fits.xor ?_ ?_ | refine Fits.shr ?_ | exact Fits.u8 (by first | omega | assumption) | exact Fits.u32 (by first | omega | assumption) | exact Fits.u64 (by first | omega | assumption) | exact Fits.i64 (by first | omega | assumption))); first | done | fail))) ?_)
          | (show DT _ _ _ _ _ _ ⟨_, .binOp .shr _ _ _ _, _, _, _, none⟩ _ _ _; refine DT.val (fun _ => Val.shrF rfl rfl (by first | assumption | decide | ((repeat (first | assumption | decide | exact Fits.modU rfl | refine Fits.and ?_ | refine Fits.or ?_ ?_ | refine Fits.xor ?_ ?_ | refine Fits.shr ?_ | exact Fits.u8 (by first | omega | assumption) | exact Fits.u32 (by first | omega | assumption) | exact Fits.u64 (by first | omega | assumption) | exact Fits.i64 (by first | omega | assumption))); first | done | fail))) ?_)
          | (show DT _ _ _ _ _ _ ⟨_, .binOp .shl _ _ _ _, _, _, _, none⟩ _ _ _; refine DT.val (fun _ => Val.shlU rfl rfl rfl) ?_)
          | (show DT _ _ _ _ _ _ ⟨_, .nilCheck _, _, _, _, none⟩ _ _ _; refine DT.val (fun _ => Val.nilCheck rfl) ?_)
          | (show DT _ _ _ _ _ _ ⟨_, .fieldAddr _ _ _, _, _, _, none⟩ _ _ _; refine DT.val (fun _ => Val.fieldAddr rfl rfl) ?_)
          | (show DS _ _ _ _ _ _ ⟨_, .convert _ _ _, _, _, _, none⟩ _ _ _; refine DS.val (by first | exact hS | exact H.has.mono (by (repeat (first | exact Sub.refl | exact Sub.nil | refine Sub.mem (by (repeat (first | exact List.mem_cons_self | refine List.mem_cons_of_mem _ ?_)); first | done | fail) ?_ | refine Sub.cons ?_)); first | done | fail)) (fun _ hS => Val.convN rfl (by first | assumption | decide | ((repeat (first | assumption | decide | exact Fits.modU rfl | refine Fits.and ?_ | refine Fits.or ?_ ?_ | refine Fits.xor ?_ ?_ | refine Fits.shr ?_ | exact Fits.u8 (by first | omega | assumption) | exact Fits.u32 (by first | omega | assumption) | exact Fits.u64 (by first | omega | assumption) | exact Fits.i64 (by first | omega | assumption))); first | done | fail))) ?_)
          | (show DS _ _ _ _ _ _ ⟨_, .load _ _, _, _, _, none⟩ _ _ _; first | refine DS.val (by first | exact hS | exact H.has.mono (by (repeat (first | exact Sub.refl | exact Sub.nil | refine Sub.mem (by (repeat (first | exact List.mem_cons_self | refine List.mem_cons_of_mem _ ?_)); first | done | fail) ?_ | refine Sub.cons ?_)); first | done | fail)) (fun _ hS => Val.loadBox rfl (hS) (by (repeat (first | exact List.mem_cons_self | refine List.mem_cons_of_mem _ ?_)); first | done | fail) rfl) ?_ | refine DS.val (by first | exact hS | exact H.has.mono (by (repeat (first | exact Sub.refl | exact Sub.nil | refine Sub.mem (by (repeat (first | exact List.mem_cons_self | refine List.mem_cons_of_mem _ ?_)); first | done | fail) ?_ | refine Sub.cons ?_)); first | done | fail)) (fun _ hS => Val.loadAtN rfl (by first | exact (hS).row1 (by (repeat (first | exact List.mem_cons_self | refine List.mem_cons_of_mem _ ?_)); first | done | fail) | exact (hS).ro (by (repeat (first | exact List.mem_cons_self | refine List.mem_cons_of_mem _ ?_)); first | done | fail)) (by first | omega | assumption | decide | with_reducible exact nself | with_reducible exact rfl)) ?_)
          | (show DS _ _ _ _ _ _ ⟨_, .indexAddr _ _ _, _, _, _, none⟩ _ _ _; refine DS.val (by first | exact hS | exact H.has.mono (by (repeat (first | exact Sub.refl | exact Sub.nil | refine Sub.mem (by (repeat (first | exact List.mem_cons_self | refine List.mem_cons_of_mem _ ?_)); first | done | fail) ?_ | refine Sub.cons ?_)); first | done | fail)) (fun _ hS => Val.idx1 (by (conv => lhs; whnf); try rfl) rfl (by first | exact (hS).row1 (by (repeat (first | exact List.mem_cons_self | refine List.mem_cons_of_mem _ ?_)); first | done | fail) | exact (hS).ro (by (repeat (first | exact List.mem_cons_self | refine List.mem_cons_of_mem _ ?_)); first | done | fail)) (by first | omega | assumption | decide | with_reducible exact nself | with_reducible exact rfl)) ?_)
          | (show DW _ _ _ _ _ _ ⟨_, .store _ _ _, _, _, _, none⟩ _ _ _ _; (refine DW.storeRow (f := nat_ .u8) rfl rfl rfl H (by (repeat (first | exact SetRow.here (by first | omega | assumption) | apply SetRow.there)); first | done | fail) ?_; intro w H; refine ⟨by first | exact (fun _ _ => H.has.mono (by (repeat (first | exact Sub.refl | exact Sub.nil | refine Sub.mem (by (repeat (first | exact List.mem_cons_self | refine List.mem_cons_of_mem _ ?_)); first | done | fail) ?_ | refine Sub.cons ?_)); first | done | fail)) | exact (fun hk => absurd hk (by decide +kernel)), ?_⟩))
          )
      exact ⟨k - (i + 1), (i + 1, _, _), by show k - (i + 1) < k - i; omega, ⟨H.picks (by (repeat (first | exact Picks.refl | (apply Picks.cons; focus ((repeat (first | exact Pull.here | apply Pull.there)); done)) | apply Picks.drop)); first | done | fail), hput, hik, rfl⟩, ⟨rfl, rfl, rfl, rfl, trivial⟩⟩
  · repeat' (first
      | with_reducible refine C.seq ?_
      | with_reducible refine C.region ?_
      | with_reducible refine J.thn ?_
      | with_reducible refine O.nil ?_
      | with_reducible refine C.exit ?_
      | with_reducible refine C.ret ?_
      | with_reducible refine J.thnE ?_
      | with_reducible refine J.blkE ?_
      | with_reducible refine J.bodyR ?_
      | (show O _ _ _ _ (⟨_, .move _, _, _, _, none⟩ :: _) _ _; refine O.val (Val.moveI rfl) ?_)
      | (show O _ _ _ _ (⟨_, .assign _, _, _, _, none⟩ :: _) _ _; refine O.val (Val.assignB rfl) ?_)
      | (show O _ _ _ _ (⟨_, .binOp .lss _ _ _ _, _, _, _, none⟩ :: _) _ _; refine O.val (Val.lss rfl rfl) ?_)
      | (show C _ _ (.cond _ _ _) _ _ _; refine C.ifF rfl (by first | omega | assumption | with_reducible exact nself | with_reducible exact rfl) ?_)
      )
    have : i = k := by omega
    subst this
    exact ⟨rfl, _, _, hV, H⟩
/-- The same bits turned round, as the document has it. -/
theorem refRev_call {w0 w : World} {L : List Res} {x k : Nat} (H : Own w0 w L) (hx : Fits .u32 x) (hk : k ≤ 32) :
    Call Try.prog 43 #[.int .u32 x, .int .i64 (k : Int)] w fun r w' => r = .int .u32 (revTo x k : Nat) ∧ Own w0 w' L := by
  refine Call.of (n := 26) (rs := [4]) Try.func43 rfl rfl rfl (by decide) (Nat.le_of_ble_eq_true rfl) ?_
  repeat' (first
      | with_reducible refine C.seq ?_
      | with_reducible refine C.region ?_
      | with_reducible refine C.block ?_
      | with_reducible refine J.thn ?_
      | with_reducible refine O.nil ?_
      | with_reducible refine C.skip ?_
      | (show O _ _ _ _ (⟨_, .move _, _, _, _, none⟩ :: _) _ _; first | refine O.val (Val.moveI rfl) ?_ | refine O.val (Val.moveB rfl) ?_)
      | (show O _ _ _ _ (⟨_, .assign _, _, _, _, none⟩ :: _) _ _; refine O.val (Val.assignI rfl) ?_)
      | (show O _ _ _ _ (⟨_, .binOp .lss _ _ _ _, _, _, _, none⟩ :: _) _ _; refine O.val (Val.lss rfl rfl) ?_)
      | (show O _ _ _ _ (⟨_, .binOp .gtr _ _ _ _, _, _, _, none⟩ :: _) _ _; refine O.val (Val.gtr rfl rfl) ?_)
      | (show O _ _ _ _ (⟨_, .pick _ _ _, _, _, _, none⟩ :: _) _ _; refine O.val (Val.pickF rfl rfl) ?_)
      | (show O _ _ _ _ (⟨_, _, _, _, _, some _⟩ :: _) _ _; refine O.gyes rfl rfl rfl ?_)
      | (show C _ _ (.cond _ _ _) _ _ _; refine C.ifF rfl (by first | omega | assumption | with_reducible exact nself | with_reducible exact rfl) ?_)
      )
  refine C.loopS (fun i : Nat => [(0, .int .u32 x), (1, .int .i64 (k : Int)), (5, .int .u32 (revTo x i : Nat)), (6, .int .i64 ((i : Nat) : Int))]) (fun c i w => Own w0 w L ∧ i ≤ k ∧ c = k - i) k 0 ⟨H, by omega, by omega⟩ ⟨rfl, rfl, rfl, rfl, trivial⟩ ?_
  rintro c i e w ⟨H, hi, rfl⟩
  have hf := revTo_fits hx i
  have hfi : Fits .u64 i := Fits.u64 (by omega)
  have hst : revTo x (i + 1) = (revTo x i <<< 1) % 2 ^ IntKind.u32.bits ||| (x >>> i) % 2 := by
    have h2 : (x >>> i) &&& 1 = (x >>> i) % 2 := Nat.and_two_pow_sub_one_eq_mod _ 1
    simp only [revTo, h2]
  have hfb : Fits .u32 ((x >>> i) % 2) := Fits.u32 (by omega)
  by_cases hik : i < k
  · repeat' (first
      | with_reducible refine C.seq ?_
      | with_reducible refine C.region ?_
      | with_reducible refine C.block ?_
      | with_reducible refine J.thn ?_
      | with_reducible refine O.nil ?_
      | with_reducible refine J.blkN ?_
      | with_reducible refine C.skip ?_
      | (show O _ _ _ _ (⟨_, .binOp .add _ _ (.const _) _, _, _, _, none⟩ :: _) _ _; refine O.val (Val.addL rfl rfl (by first | omega | assumption | decide | with_reducible exact nself | with_reducible exact rfl)) ?_)
      | (show O _ _ _ _ (⟨_, .binOp .shl _ _ (.const _) _, _, _, _, none⟩ :: _) _ _; refine O.val (Val.shlL rfl rfl rfl) ?_)
      | (show O _ _ _ _ (⟨_, .move _, _, _, _, none⟩ :: _) _ _; refine O.val (Val.moveI rfl) ?_)
      | (show O _ _ _ _ (⟨_, .assign _, _, _, _, none⟩ :: _) _ _; refine O.val (Val.assignI rfl) ?_)
      | (show O _ _ _ _ (⟨_, .binOp .lss _ _ _ _, _, _, _, none⟩ :: _) _ _; refine O.val (Val.lss rfl rfl) ?_)
      | (show O _ _ _ _ (⟨_, .binOp .and _ _ _ _, _, _, _, none⟩ :: _) _ _; refine O.val (Val.maskU 1 2 rfl rfl (by first | assumption | decide | ((repeat (first | assumption | decide | exact Fits.modU rfl | refine Fits.and ?_ | refine Fits.or ?_ ?_ | refine Fits.xor ?_ ?_ | refine Fits.shr ?_ | exact Fits.u8 (by first | omega | assumption) | exact Fits.u32 (by first | omega | assumption) | exact Fits.u64 (by first | omega | assumption) | exact Fits.i64 (by first | omega | assumption))); first | done | fail)) (by first | assumption | decide | ((repeat (first | assumption | decide | exact Fits.modU rfl | refine Fits.and ?_ | refine Fits.or ?_ ?_ | refine Fits.xor ?_ ?_ | refine Fits.shr ?_ | exact Fits.u8 (by first | omega | assumption) | exact Fits.u32 (by first | omega | assumption) | exact Fits.u64 (by first | omega | assumption) | exact Fits.i64 (by first | omega | assumption))); first | done | fail)) (by exact rfl) (by decide)) ?_)
      | (show O _ _ _ _ (⟨_, .binOp .or _ _ _ _, _, _, _, none⟩ :: _) _ _; refine O.val (Val.orN rfl rfl (by first | assumption | decide | ((repeat (first | assumption | decide | exact Fits.modU rfl | refine Fits.and ?_ | refine Fits.or ?_ ?_ | refine Fits.xor ?_ ?_ | refine Fits.shr ?_ | exact Fits.u8 (by first | omega | assumption) | exact Fits.u32 (by first | omega | assumption) | exact Fits.u64 (by first | omega | assumption) | exact Fits.i64 (by first | omega | assumption))); first | done | fail)) (by first | assumption | decide | ((repeat (first | assumption | decide | exact Fits.modU rfl | refine Fits.and ?_ | refine Fits.or ?_ ?_ | refine Fits.xor ?_ ?_ | refine Fits.shr ?_ | exact Fits.u8 (by first | omega | assumption) | exact Fits.u32 (by first | omega | assumption) | exact Fits.u64 (by first | omega | assumption) | exact Fits.i64 (by first | omega | assumption))); first | done | fail))) ?_)
      | (show O _ _ _ _ (⟨_, .binOp .shr _ _ _ _, _, _, _, none⟩ :: _) _ _; refine O.val (Val.shrF rfl rfl (by first | assumption | decide | ((repeat (first | assumption | decide | exact Fits.modU rfl | refine Fits.and ?_ | refine Fits.or ?_ ?_ | refine Fits.xor ?_ ?_ | refine Fits.shr ?_ | exact Fits.u8 (by first | omega | assumption) | exact Fits.u32 (by first | omega | assumption) | exact Fits.u64 (by first | omega | assumption) | exact Fits.i64 (by first | omega | assumption))); first | done | fail))) ?_)
      | (show C _ _ (.cond _ _ _) _ _ _; refine C.ifT rfl (by first | omega | assumption | with_reducible exact nself | with_reducible exact rfl) ?_)
      )
    exact ⟨k - (i + 1), i + 1, by omega, ⟨H, by omega, rfl⟩, ⟨rfl, rfl, by rw [hst]; rfl, rfl, trivial⟩⟩
  · repeat' (first
      | with_reducible refine C.seq ?_
      | with_reducible refine C.region ?_
      | with_reducible refine J.thn ?_
      | with_reducible refine O.nil ?_
      | with_reducible refine C.exit ?_
      | with_reducible refine C.ret ?_
      | with_reducible refine J.thnE ?_
      | with_reducible refine J.blkE ?_
      | with_reducible refine J.bodyR ?_
      | (show O _ _ _ _ (⟨_, .move _, _, _, _, none⟩ :: _) _ _; refine O.val (Val.moveI rfl) ?_)
      | (show O _ _ _ _ (⟨_, .assign _, _, _, _, none⟩ :: _) _ _; refine O.val (Val.assignI rfl) ?_)
      | (show O _ _ _ _ (⟨_, .binOp .lss _ _ _ _, _, _, _, none⟩ :: _) _ _; refine O.val (Val.lss rfl rfl) ?_)
      | (show C _ _ (.cond _ _ _) _ _ _; refine C.ifF rfl (by first | omega | assumption | with_reducible exact nself | with_reducible exact rfl) ?_)
      )
    have : i = k := by omega
    subst this
    exact ⟨rfl, H⟩
theorem refRev_no {w0 w : World} {L : List Res} {x : Nat} {z : Int} (H : Own w0 w L) (hz : z < 0 ∨ 32 < z) :
    Call Try.prog 43 #[.int .u32 x, .int .i64 z] w fun r w' => r = .int .u32 0 ∧ Own w0 w' L := by
  refine Call.of (n := 26) (rs := [4]) Try.func43 rfl rfl rfl (by decide) (Nat.le_of_ble_eq_true rfl) ?_
  rcases hz with h0 | h1
  · repeat' (first
      | with_reducible refine C.seq ?_
      | with_reducible refine C.region ?_
      | with_reducible refine J.thn ?_
      | with_reducible refine O.nil ?_
      | with_reducible refine C.ret ?_
      | with_reducible refine J.thnR ?_
      | with_reducible refine J.bodyR ?_
      | (show O _ _ _ _ (⟨_, .move _, _, _, _, none⟩ :: _) _ _; first | refine O.val (Val.moveI rfl) ?_ | refine O.val (Val.moveB rfl) ?_)
      | (show O _ _ _ _ (⟨_, .assign _, _, _, _, none⟩ :: _) _ _; refine O.val (Val.assignI rfl) ?_)
      | (show O _ _ _ _ (⟨_, .binOp .lss _ _ _ _, _, _, _, none⟩ :: _) _ _; refine O.val (Val.lss rfl rfl) ?_)
      | (show O _ _ _ _ (⟨_, .pick _ _ _, _, _, _, none⟩ :: _) _ _; refine O.val (Val.pickDT rfl (by first | omega | assumption | decide | with_reducible exact nself | with_reducible exact rfl)) ?_)
      | (show O _ _ _ _ (⟨_, _, _, _, _, some _⟩ :: _) _ _; refine O.sT rfl rfl (by first | omega | assumption | with_reducible exact nself | with_reducible exact rfl) rfl ?_)
      | (show C _ _ (.cond _ _ _) _ _ _; with_reducible refine C.condT rfl rfl ?_)
      )
    exact ⟨rfl, H⟩
  · repeat' (first
      | with_reducible refine C.seq ?_
      | with_reducible refine C.region ?_
      | with_reducible refine J.thn ?_
      | with_reducible refine O.nil ?_
      | with_reducible refine C.ret ?_
      | with_reducible refine J.thnR ?_
      | with_reducible refine J.bodyR ?_
      | (show O _ _ _ _ (⟨_, .move _, _, _, _, none⟩ :: _) _ _; first | refine O.val (Val.moveI rfl) ?_ | refine O.val (Val.moveB rfl) ?_)
      | (show O _ _ _ _ (⟨_, .assign _, _, _, _, none⟩ :: _) _ _; refine O.val (Val.assignI rfl) ?_)
      | (show O _ _ _ _ (⟨_, .binOp .lss _ _ _ _, _, _, _, none⟩ :: _) _ _; refine O.val (Val.lss rfl rfl) ?_)
      | (show O _ _ _ _ (⟨_, .binOp .gtr _ _ _ _, _, _, _, none⟩ :: _) _ _; refine O.val (Val.gtr rfl rfl) ?_)
      | (show O _ _ _ _ (⟨_, .pick _ _ _, _, _, _, none⟩ :: _) _ _; refine O.val (Val.pickDF rfl (by first | omega | assumption | decide | with_reducible exact nself | with_reducible exact rfl)) ?_)
      | (show O _ _ _ _ (⟨_, _, _, _, _, some _⟩ :: _) _ _; refine O.gF rfl rfl (by first | omega | assumption | with_reducible exact nself | with_reducible exact rfl) rfl ?_)
      | (show C _ _ (.cond _ _ _) _ _ _; refine C.ifT rfl (by first | omega | assumption | with_reducible exact nself | with_reducible exact rfl) ?_)
      )
    exact ⟨rfl, H⟩
theorem rev_no {w0 w : World} {L : List Res} {x : Nat} {z : Int} (H : Own w0 w L) (hz : z < 0 ∨ 32 < z) :
    Call Try.prog 32 #[.int .u32 x, .int .i64 z] w fun r w' => r = .int .u32 0 ∧ Own w0 w' L := by
  refine Call.of (n := 27) (rs := [4]) Try.func32 rfl rfl rfl (by decide) (Nat.le_of_ble_eq_true rfl) ?_
  rcases hz with h0 | h1
  · repeat' (first
      | with_reducible refine C.seq ?_
      | with_reducible refine C.region ?_
      | with_reducible refine J.thn ?_
      | with_reducible refine O.nil ?_
      | with_reducible refine C.ret ?_
      | with_reducible refine J.thnR ?_
      | with_reducible refine J.bodyR ?_
      | (show O _ _ _ _ (⟨_, .move _, _, _, _, none⟩ :: _) _ _; first | refine O.val (Val.moveI rfl) ?_ | refine O.val (Val.moveB rfl) ?_)
      | (show O _ _ _ _ (⟨_, .assign _, _, _, _, none⟩ :: _) _ _; refine O.val (Val.assignI rfl) ?_)
      | (show O _ _ _ _ (⟨_, .binOp .lss _ _ _ _, _, _, _, none⟩ :: _) _ _; refine O.val (Val.lss rfl rfl) ?_)
      | (show O _ _ _ _ (⟨_, .pick _ _ _, _, _, _, none⟩ :: _) _ _; refine O.val (Val.pickDT rfl (by first | omega | assumption | decide | with_reducible exact nself | with_reducible exact rfl)) ?_)
      | (show O _ _ _ _ (⟨_, _, _, _, _, some _⟩ :: _) _ _; refine O.sT rfl rfl (by first | omega | assumption | with_reducible exact nself | with_reducible exact rfl) rfl ?_)
      | (show C _ _ (.cond _ _ _) _ _ _; with_reducible refine C.condT rfl rfl ?_)
      )
    exact ⟨rfl, H⟩
  · repeat' (first
      | with_reducible refine C.seq ?_
      | with_reducible refine C.region ?_
      | with_reducible refine J.thn ?_
      | with_reducible refine O.nil ?_
      | with_reducible refine C.ret ?_
      | with_reducible refine J.thnR ?_
      | with_reducible refine J.bodyR ?_
      | (show O _ _ _ _ (⟨_, .move _, _, _, _, none⟩ :: _) _ _; first | refine O.val (Val.moveI rfl) ?_ | refine O.val (Val.moveB rfl) ?_)
      | (show O _ _ _ _ (⟨_, .assign _, _, _, _, none⟩ :: _) _ _; refine O.val (Val.assignI rfl) ?_)
      | (show O _ _ _ _ (⟨_, .binOp .lss _ _ _ _, _, _, _, none⟩ :: _) _ _; refine O.val (Val.lss rfl rfl) ?_)
      | (show O _ _ _ _ (⟨_, .binOp .gtr _ _ _ _, _, _, _, none⟩ :: _) _ _; refine O.val (Val.gtr rfl rfl) ?_)
      | (show O _ _ _ _ (⟨_, .pick _ _ _, _, _, _, none⟩ :: _) _ _; refine O.val (Val.pickDF rfl (by first | omega | assumption | decide | with_reducible exact nself | with_reducible exact rfl)) ?_)
      | (show O _ _ _ _ (⟨_, _, _, _, _, some _⟩ :: _) _ _; refine O.gF rfl rfl (by first | omega | assumption | with_reducible exact nself | with_reducible exact rfl) rfl ?_)
      | (show C _ _ (.cond _ _ _) _ _ _; refine C.ifT rfl (by first | omega | assumption | with_reducible exact nself | with_reducible exact rfl) ?_)
      )
    exact ⟨rfl, H⟩
/-- Noughts up to a byte's end. -/
theorem refOutAlign_call {w0 w : World} {L : List Res} {p : Nat} {bv : Value} {W : List Nat} {N n : Nat} (H : Own w0 w (outL p bv W n L)) (hB : Bits W N n) (hn : n ≤ 900000) :
    Call Try.prog 45 #[.pointer (some ⟨p, 0, none⟩)] w fun r w' => ∃ bv' W', Bits W' N (8 * W.length) ∧ Own w0 w' (outL p bv' W' (8 * W.length) L) := by
  refine Call.of (n := 10) (rs := []) Try.func45 rfl rfl rfl (by decide) (Nat.le_of_ble_eq_true rfl) ?_
  have hlen := hB.len
  repeat' (first
      | with_reducible refine C.block ?_
      )
  refine C.loopS (fun s : Nat × Value × List Nat => [(0, .pointer (some ⟨p, 0, none⟩))]) (fun c s w => Own w0 w (outL p s.2.1 s.2.2 s.1 L) ∧ Bits s.2.2 N s.1 ∧ s.1 ≤ 8 * W.length ∧ 8 * W.length < s.1 + 8 ∧ c = 8 * W.length - s.1) (8 * W.length - n) (n, bv, W) ⟨H, hB, by show n ≤ 8 * W.length; omega, by show 8 * W.length < n + 8; omega, rfl⟩ ⟨rfl, trivial⟩ ?_
  rintro c ⟨i, v1, V⟩ e w ⟨H, hV, hi, hi8, rfl⟩
  simp only at H hV hi hi8
  by_cases hz : i % 8 = 0
  · repeat' (first
      | with_reducible refine C.seq ?_
      | with_reducible refine C.region ?_
      | with_reducible refine J.thn ?_
      | with_reducible refine O.nil ?_
      | with_reducible refine C.exit ?_
      | with_reducible refine J.thnE ?_
      | with_reducible refine J.blkE ?_
      | with_reducible refine J.bodyN ?_
      | (show O _ _ _ _ (⟨_, .binOp .rem _ _ (.const _) _, _, _, _, none⟩ :: _) _ _; refine O.val (Val.remL rfl rfl (by first | omega | assumption | decide | with_reducible exact nself | with_reducible exact rfl)) ?_)
      | (show O _ _ _ _ (⟨_, .move _, _, _, _, none⟩ :: _) _ _; refine O.val (Val.moveP rfl) ?_)
      | (show O _ _ _ _ (⟨_, .binOp .neq _ _ _ _, _, _, _, none⟩ :: _) _ _; refine O.val (Val.neq rfl rfl) ?_)
      | (show O _ _ _ _ (⟨_, .nilCheck _, _, _, _, none⟩ :: _) _ _; refine O.val (Val.nilCheck rfl) ?_)
      | (show O _ _ _ _ (⟨_, .fieldAddr _ _ _, _, _, _, none⟩ :: _) _ _; refine O.val (Val.fieldAddr rfl rfl) ?_)
      | (show O _ _ _ _ (⟨_, .load _ _, _, _, _, none⟩ :: _) _ _; refine O.val (Val.loadBox rfl (H.has) (by (repeat (first | exact List.mem_cons_self | refine List.mem_cons_of_mem _ ?_)); first | done | fail) rfl) ?_)
      | (show C _ _ (.cond _ _ _) _ _ _; refine C.ifF rfl (by first | omega | assumption | with_reducible exact nself | with_reducible exact rfl) ?_)
      )
    have : i = 8 * W.length := by omega
    subst this
    exact ⟨_, _, hV, H⟩
  · repeat' (first
      | with_reducible refine C.seq ?_
      | with_reducible refine C.region ?_
      | with_reducible refine C.block ?_
      | with_reducible refine J.thn ?_
      | with_reducible refine O.nil ?_
      | with_reducible refine J.blkN ?_
      | with_reducible refine C.skip ?_
      | (show O _ _ _ _ (⟨_, .call { callee := .value (.func 41), args := _, argTypes := _ }, _, _, _, none⟩ :: _) _ _; refine O.call rfl (refPut_yes (x := 0) (k := 1) H hV (by omega) (by decide) (by decide)) ?_; rintro _ w ⟨rfl, bv, B, hB, H⟩; simp only [Nat.zero_mod, Nat.zero_mul, Nat.add_zero] at hB)
      | (show O _ _ _ _ (⟨_, .binOp .rem _ _ (.const _) _, _, _, _, none⟩ :: _) _ _; refine O.val (Val.remL rfl rfl (by first | omega | assumption | decide | with_reducible exact nself | with_reducible exact rfl)) ?_)
      | (show O _ _ _ _ (⟨_, .move _, _, _, _, none⟩ :: _) _ _; refine O.val (Val.moveP rfl) ?_)
      | (show O _ _ _ _ (⟨_, .binOp .neq _ _ _ _, _, _, _, none⟩ :: _) _ _; refine O.val (Val.neq rfl rfl) ?_)
      | (show O _ _ _ _ (⟨_, .nilCheck _, _, _, _, none⟩ :: _) _ _; refine O.val (Val.nilCheck rfl) ?_)
      | (show O _ _ _ _ (⟨_, .fieldAddr _ _ _, _, _, _, none⟩ :: _) _ _; refine O.val (Val.fieldAddr rfl rfl) ?_)
      | (show O _ _ _ _ (⟨_, .load _ _, _, _, _, none⟩ :: _) _ _; refine O.val (Val.loadBox rfl (H.has) (by (repeat (first | exact List.mem_cons_self | refine List.mem_cons_of_mem _ ?_)); first | done | fail) rfl) ?_)
      | (show C _ _ (.cond _ _ _) _ _ _; refine C.ifT rfl (by first | omega | assumption | with_reducible exact nself | with_reducible exact rfl) ?_)
      )
    exact ⟨8 * W.length - (i + 1), (i + 1, _, _), by show 8 * W.length - (i + 1) < 8 * W.length - i; omega, ⟨H, hB, by show i + 1 ≤ 8 * W.length; omega, by show 8 * W.length < i + 1 + 8; omega, rfl⟩, ⟨rfl, trivial⟩⟩
/-! ### bits that are read -/
abbrev bitL (p : Nat) (s : ByteArray) (m : Nat) (L : List Res) : List Res := .box p 74 [.string s, .int .i64 m] :: L
theorem bit_num {bs : List Nat} (hb : Bytes bs) {k : Nat} (hk : k < 8 * bs.length) : (bs.getD (k / 8) 0 >>> (k % 8)) % 2 = (num bs >>> k) % 2 := by
  have h := cutN_win hb (m := k) (c := 1) (n := 1) (by omega)
  have h1 : num ((bs.drop (k / 8)).take 1) = bs.getD (k / 8) 0 := by
    have hlt : k / 8 < bs.length := by omega
    rw [List.drop_eq_getElem_cons hlt, List.take_succ_cons, List.take_zero]
    simp [num, List.getD, hlt]
  rw [h1] at h
  exact h
theorem cut_succ (N m i : Nat) : cutN N m (i + 1) = cutN N m i + (N >>> (m + i)) % 2 * 2 ^ i := by
  unfold cutN
  have h2 : ((N >>> m) >>> i) &&& 1 = ((N >>> m) >>> i) % 2 := Nat.and_two_pow_sub_one_eq_mod _ 1
  rw [low_succ, h2, ← Nat.shiftRight_add]
theorem bitLeft_call {w0 w : World} {L : List Res} {p : Nat} {s : ByteArray} {m : Nat} (H : Own w0 w (bitL p s m L)) (hl : (sb s).length ≤ 1000000) (hm : m ≤ 8 * (sb s).length) :
    Call Try.prog 53 #[.pointer (some ⟨p, 0, none⟩)] w fun r w' => r = .int .i64 ((8 * (sb s).length - m : Nat) : Int) ∧ Own w0 w' (bitL p s m L) := by
  refine Call.of (n := 14) (rs := [2]) Try.func53 rfl rfl rfl (by decide) (Nat.le_of_ble_eq_true rfl) ?_
  repeat' (first
      | with_reducible refine C.seq ?_
      | with_reducible refine C.region ?_
      | with_reducible refine J.thn ?_
      | with_reducible refine O.nil ?_
      | with_reducible refine C.ret ?_
      | with_reducible refine J.bodyR ?_
      | (show C _ _ (.region 1 _ true) _ _ _; refine C.drawnAll [3, 4, 9] (.take 0 (.take 1 (.take 2 (.takeS 3 (.takeS 4 (.take 5 (.take 6 (.take 7 (.take 8 (.takeS 9 (.take 10 (.take 11 .done)))))))))))) (by kernel_rfl) (by (repeat (first | with_reducible exact NoPan.body | with_reducible exact NoPan.endS | with_reducible refine NoPan.thn ?_ | with_reducible refine NoPan.blk ?_)); first | done | fail) H ?_; intro w H hS)
      | (show O _ _ _ _ (⟨_, .assign _, _, _, _, none⟩ :: _) _ _; refine O.val (Val.assignI rfl) ?_)
      | with_reducible refine D.done ?_
      | refine D.take rfl ?_
      | refine D.takeS rfl ?_
      | (show DT _ _ _ _ _ _ ⟨_, .binOp .mul _ (.const _) _ _, _, _, _, none⟩ _ _ _; refine DT.val (fun _ => Val.mulLl rfl rfl (by first | omega | assumption | decide | with_reducible exact nself | with_reducible exact rfl)) ?_)
      | (show DT _ _ _ _ _ _ ⟨_, .move _, _, _, _, none⟩ _ _ _; refine DT.val (fun _ => Val.moveP rfl) ?_)
      | (show DT _ _ _ _ _ _ ⟨_, .assign _, _, _, _, none⟩ _ _ _; refine DT.val (fun _ => Val.assignI rfl) ?_)
      | (show DT _ _ _ _ _ _ ⟨_, .binOp .sub _ _ _ _, _, _, _, none⟩ _ _ _; refine DT.val (fun _ => Val.subN rfl rfl (by first | omega | assumption | decide | with_reducible exact nself | with_reducible exact rfl)) ?_)
      | (show DT _ _ _ _ _ _ ⟨_, .nilCheck _, _, _, _, none⟩ _ _ _; refine DT.val (fun _ => Val.nilCheck rfl) ?_)
      | (show DT _ _ _ _ _ _ ⟨_, .fieldAddr _ _ _, _, _, _, none⟩ _ _ _; refine DT.val (fun _ => Val.fieldAddr rfl rfl) ?_)
      | (show DS _ _ _ _ _ _ ⟨_, .load _ _, _, _, _, none⟩ _ _ _; refine DS.val (by first | exact hS | exact H.has.mono (by (repeat (first | exact Sub.refl | exact Sub.nil | refine Sub.mem (by (repeat (first | exact List.mem_cons_self | refine List.mem_cons_of_mem _ ?_)); first | done | fail) ?_ | refine Sub.cons ?_)); first | done | fail)) (fun _ hS => Val.loadBox rfl (hS) (by (repeat (first | exact List.mem_cons_self | refine List.mem_cons_of_mem _ ?_)); first | done | fail) rfl) ?_)
      | (show DS _ _ _ _ _ _ ⟨_, .call { callee := .builtin .len, args := _, argTypes := _ }, _, _, _, none⟩ _ _ _; refine DS.val (by first | exact hS | exact H.has.mono (by (repeat (first | exact Sub.refl | exact Sub.nil | refine Sub.mem (by (repeat (first | exact List.mem_cons_self | refine List.mem_cons_of_mem _ ?_)); first | done | fail) ?_ | refine Sub.cons ?_)); first | done | fail)) (fun _ hS => Val.lenStr rfl) ?_)
      )
  exact ⟨rfl, H⟩
theorem bitAlign_call {w0 w : World} {L : List Res} {p : Nat} {s : ByteArray} {m : Nat} (H : Own w0 w (bitL p s m L)) (hm : m ≤ 8000000) :
    Call Try.prog 49 #[.pointer (some ⟨p, 0, none⟩)] w fun r w' => Own w0 w' (bitL p s ((m + 7) / 8 * 8) L) := by
  refine Call.of (n := 12) (rs := []) Try.func49 rfl rfl rfl (by decide) (Nat.le_of_ble_eq_true rfl) ?_
  repeat' (first
      | with_reducible refine C.region ?_
      | with_reducible refine O.nil ?_
      | with_reducible refine J.bodyN ?_
      | (show O _ _ _ _ (⟨_, .binOp .add _ _ (.const _) _, _, _, _, none⟩ :: _) _ _; refine O.val (Val.addL rfl rfl (by first | omega | assumption | decide | with_reducible exact nself | with_reducible exact rfl)) ?_)
      | (show O _ _ _ _ (⟨_, .binOp .mul _ _ (.const _) _, _, _, _, none⟩ :: _) _ _; refine O.val (Val.mulL rfl rfl (by first | omega | assumption | decide | with_reducible exact nself | with_reducible exact rfl)) ?_)
      | (show O _ _ _ _ (⟨_, .binOp .quo _ _ (.const _) _, _, _, _, none⟩ :: _) _ _; refine O.val (Val.quoL rfl rfl (by first | omega | assumption | decide | with_reducible exact nself | with_reducible exact rfl) (by first | omega | assumption | decide | with_reducible exact nself | with_reducible exact rfl)) ?_)
      | (show O _ _ _ _ (⟨_, .move _, _, _, _, none⟩ :: _) _ _; refine O.val (Val.moveP rfl) ?_)
      | (show O _ _ _ _ (⟨_, .nilCheck _, _, _, _, none⟩ :: _) _ _; refine O.val (Val.nilCheck rfl) ?_)
      | (show O _ _ _ _ (⟨_, .fieldAddr _ _ _, _, _, _, none⟩ :: _) _ _; refine O.val (Val.fieldAddr rfl rfl) ?_)
      | (show O _ _ _ _ (⟨_, .load _ _, _, _, _, none⟩ :: _) _ _; refine O.val (Val.loadBox rfl (H.has) (by (repeat (first | exact List.mem_cons_self | refine List.mem_cons_of_mem _ ?_)); first | done | fail) rfl) ?_)
      | (show O _ _ _ _ (⟨_, .store _ _ _, _, _, _, none⟩ :: _) _ _; (refine O.storeBox rfl (by (conv => lhs; whnf); try rfl) (by first | rfl | exact (H.has).one (by (repeat (first | exact List.mem_cons_self | refine List.mem_cons_of_mem _ ?_)); first | done | fail) | exact (H.has).oneRo (by (repeat (first | exact List.mem_cons_self | refine List.mem_cons_of_mem _ ?_)); first | done | fail)) H (by (repeat (first | exact List.mem_cons_self | refine List.mem_cons_of_mem _ ?_)); first | done | fail) (by exact Nat.le_of_ble_eq_true rfl) (by (repeat (first | exact SetBox.here | apply SetBox.there)); first | done | fail) ?_; intro w H))
      )
  exact H
theorem bitTake_no {w0 w : World} {L : List Res} {p : Nat} {s : ByteArray} {m : Nat} {z : Int} (H : Own w0 w (bitL p s m L)) (hl : (sb s).length ≤ 1000000) (hm : m ≤ 8 * (sb s).length) (hz : z < 0 ∨ 32 < z ∨ (8 * (sb s).length - m : Nat) < z) :
    Call Try.prog 46 #[.pointer (some ⟨p, 0, none⟩), .int .i64 z] w fun r w' => r = .tuple #[.int .u32 0, .bool false] ∧ Own w0 w' (bitL p s m L) := by
  refine Call.of (n := 55) (rs := [4, 5]) Try.func46 rfl rfl rfl (by decide) (Nat.le_of_ble_eq_true rfl) ?_
  by_cases h0 : z < 0
  · repeat' (first
      | with_reducible refine C.seq ?_
      | with_reducible refine C.region ?_
      | with_reducible refine J.thn ?_
      | with_reducible refine O.nil ?_
      | with_reducible refine C.ret ?_
      | with_reducible refine J.thnR ?_
      | with_reducible refine J.bodyR ?_
      | (show O _ _ _ _ (⟨_, .move _, _, _, _, none⟩ :: _) _ _; first | refine O.val (Val.moveI rfl) ?_ | refine O.val (Val.moveB rfl) ?_)
      | (show O _ _ _ _ (⟨_, .assign _, _, _, _, none⟩ :: _) _ _; first | refine O.val (Val.assignI rfl) ?_ | refine O.val (Val.assignB rfl) ?_)
      | (show O _ _ _ _ (⟨_, .binOp .lss _ _ _ _, _, _, _, none⟩ :: _) _ _; refine O.val (Val.lss rfl rfl) ?_)
      | (show O _ _ _ _ (⟨_, .pick _ _ _, _, _, _, none⟩ :: _) _ _; first | refine O.val (Val.pickT rfl rfl) ?_ | refine O.val (Val.pickDT rfl (by first | omega | assumption | decide | with_reducible exact nself | with_reducible exact rfl)) ?_)
      | (show O _ _ _ _ (⟨_, _, _, _, _, some _⟩ :: _) _ _; first | refine O.gno rfl rfl rfl ?_ | refine O.sT rfl rfl (by first | omega | assumption | with_reducible exact nself | with_reducible exact rfl) rfl ?_)
      | (show C _ _ (.cond _ _ _) _ _ _; with_reducible refine C.condT rfl rfl ?_)
      )
    exact ⟨rfl, H⟩
  by_cases h1 : 32 < z
  · repeat' (first
      | with_reducible refine C.seq ?_
      | with_reducible refine C.region ?_
      | with_reducible refine J.thn ?_
      | with_reducible refine O.nil ?_
      | with_reducible refine C.ret ?_
      | with_reducible refine J.thnR ?_
      | with_reducible refine J.bodyR ?_
      | (show O _ _ _ _ (⟨_, .move _, _, _, _, none⟩ :: _) _ _; first | refine O.val (Val.moveI rfl) ?_ | refine O.val (Val.moveB rfl) ?_)
      | (show O _ _ _ _ (⟨_, .assign _, _, _, _, none⟩ :: _) _ _; first | refine O.val (Val.assignI rfl) ?_ | refine O.val (Val.assignB rfl) ?_)
      | (show O _ _ _ _ (⟨_, .binOp .lss _ _ _ _, _, _, _, none⟩ :: _) _ _; refine O.val (Val.lss rfl rfl) ?_)
      | (show O _ _ _ _ (⟨_, .binOp .gtr _ _ _ _, _, _, _, none⟩ :: _) _ _; refine O.val (Val.gtr rfl rfl) ?_)
      | (show O _ _ _ _ (⟨_, .pick _ _ _, _, _, _, none⟩ :: _) _ _; first | refine O.val (Val.pickDF rfl (by first | omega | assumption | decide | with_reducible exact nself | with_reducible exact rfl)) ?_ | refine O.val (Val.pickDT rfl (by first | omega | assumption | decide | with_reducible exact nself | with_reducible exact rfl)) ?_)
      | (show O _ _ _ _ (⟨_, _, _, _, _, some _⟩ :: _) _ _; first | refine O.gF rfl rfl (by first | omega | assumption | with_reducible exact nself | with_reducible exact rfl) rfl ?_ | refine O.sT rfl rfl (by first | omega | assumption | with_reducible exact nself | with_reducible exact rfl) rfl ?_)
      | (show C _ _ (.cond _ _ _) _ _ _; with_reducible refine C.condT rfl rfl ?_)
      )
    exact ⟨rfl, H⟩
  have h2 : (8 * (sb s).length - m : Nat) < z := by omega
  repeat' (first
      | with_reducible refine C.seq ?_
      | with_reducible refine C.region ?_
      | with_reducible refine J.thn ?_
      | with_reducible refine O.nil ?_
      | with_reducible refine C.ret ?_
      | with_reducible refine J.thnR ?_
      | with_reducible refine J.bodyR ?_
      | (show O _ _ _ _ (⟨_, .call { callee := .value (.func 53), args := _, argTypes := _ }, _, _, _, none⟩ :: _) _ _; refine O.call rfl (bitLeft_call H hl hm) ?_; rintro _ w ⟨rfl, H⟩)
      | (show O _ _ _ _ (⟨_, .move _, _, _, _, none⟩ :: _) _ _; first | refine O.val (Val.moveI rfl) ?_ | refine O.val (Val.moveB rfl) ?_ | refine O.val (Val.moveP rfl) ?_)
      | (show O _ _ _ _ (⟨_, .assign _, _, _, _, none⟩ :: _) _ _; first | refine O.val (Val.assignI rfl) ?_ | refine O.val (Val.assignB rfl) ?_)
      | (show O _ _ _ _ (⟨_, .binOp .lss _ _ _ _, _, _, _, none⟩ :: _) _ _; refine O.val (Val.lss rfl rfl) ?_)
      | (show O _ _ _ _ (⟨_, .binOp .gtr _ _ _ _, _, _, _, none⟩ :: _) _ _; refine O.val (Val.gtr rfl rfl) ?_)
      | (show O _ _ _ _ (⟨_, .pick _ _ _, _, _, _, none⟩ :: _) _ _; refine O.val (Val.pickDF rfl (by first | omega | assumption | decide | with_reducible exact nself | with_reducible exact rfl)) ?_)
      | (show O _ _ _ _ (⟨_, _, _, _, _, some _⟩ :: _) _ _; refine O.gF rfl rfl (by first | omega | assumption | with_reducible exact nself | with_reducible exact rfl) rfl ?_)
      | (show C _ _ (.cond _ _ _) _ _ _; refine C.ifT rfl (by first | omega | assumption | with_reducible exact nself | with_reducible exact rfl) ?_)
      )
  exact ⟨rfl, H⟩
set_option maxRecDepth 100000 in
theorem bitTake_yes {w0 w : World} {L : List Res} {p : Nat} {s : ByteArray} {m n : Nat} (H : Own w0 w (bitL p s m L)) (hl : (sb s).length ≤ 1000000) (hm : m + n ≤ 8 * (sb s).length) (hn : n ≤ 32) :
    Call Try.prog 46 #[.pointer (some ⟨p, 0, none⟩), .int .i64 (n : Int)] w fun r w' => r = .tuple #[.int .u32 (cutN (num (sb s)) m n : Nat), .bool true] ∧ Own w0 w' (bitL p s (m + n) L) := by
  refine Call.of (n := 55) (rs := [4, 5]) Try.func46 rfl rfl rfl (by decide) (Nat.le_of_ble_eq_true rfl) ?_
  have hb := sb_bytes s
  have hm0 : m ≤ 8 * (sb s).length := by omega
  repeat' (first
      | with_reducible refine C.seq ?_
      | with_reducible refine C.region ?_
      | with_reducible refine C.block ?_
      | with_reducible refine J.thn ?_
      | with_reducible refine O.nil ?_
      | with_reducible refine C.skip ?_
      | (show O _ _ _ _ (⟨_, .call { callee := .value (.func 53), args := _, argTypes := _ }, _, _, _, none⟩ :: _) _ _; refine O.call rfl (bitLeft_call H hl hm0) ?_; rintro _ w ⟨rfl, H⟩)
      | (show O _ _ _ _ (⟨_, .move _, _, _, _, none⟩ :: _) _ _; first | refine O.val (Val.moveI rfl) ?_ | refine O.val (Val.moveB rfl) ?_ | refine O.val (Val.moveP rfl) ?_)
      | (show O _ _ _ _ (⟨_, .assign _, _, _, _, none⟩ :: _) _ _; first | refine O.val (Val.assignI rfl) ?_ | refine O.val (Val.assignB rfl) ?_)
      | (show O _ _ _ _ (⟨_, .binOp .lss _ _ _ _, _, _, _, none⟩ :: _) _ _; refine O.val (Val.lss rfl rfl) ?_)
      | (show O _ _ _ _ (⟨_, .binOp .gtr _ _ _ _, _, _, _, none⟩ :: _) _ _; refine O.val (Val.gtr rfl rfl) ?_)
      | (show O _ _ _ _ (⟨_, .pick _ _ _, _, _, _, none⟩ :: _) _ _; first | refine O.val (Val.pickF rfl rfl) ?_ | refine O.val (Val.pickDF rfl (by first | omega | assumption | decide | with_reducible exact nself | with_reducible exact rfl)) ?_)
      | (show O _ _ _ _ (⟨_, _, _, _, _, some _⟩ :: _) _ _; first | refine O.gyes rfl rfl rfl ?_ | refine O.gF rfl rfl (by first | omega | assumption | with_reducible exact nself | with_reducible exact rfl) rfl ?_)
      | (show C _ _ (.cond _ _ _) _ _ _; refine C.ifF rfl (by first | omega | assumption | with_reducible exact nself | with_reducible exact rfl) ?_)
      )
  refine C.loopS (fun i : Nat => [(0, .pointer (some ⟨p, 0, none⟩)), (1, .int .i64 (n : Int)), (6, .int .u32 (cutN (num (sb s)) m i : Nat)), (7, .int .i64 ((i : Nat) : Int))]) (fun c i w => Own w0 w (bitL p s (m + i) L) ∧ i ≤ n ∧ c = n - i) n 0 ⟨H, by omega, by omega⟩ ⟨rfl, rfl, by simp [cutN, Nat.mod_one]; rfl, rfl, trivial⟩ ?_
  rintro c i e w ⟨H, hi, rfl⟩
  by_cases hik : i < n
  · have hg := hb.at ((m + i) / 8)
    have hg8 : Fits .u8 ((sb s).getD ((m + i) / 8) 0) := hg
    have hlt : (m + i) / 8 < (sb s).length := by omega
    have hcl := cutN_lt (num (sb s)) m i
    have hcf : Fits .u32 (cutN (num (sb s)) m i) := Nat.lt_of_lt_of_le hcl (Nat.pow_le_pow_right (by decide) (show i ≤ 32 by omega))
    have hst : cutN (num (sb s)) m i ||| (((sb s).getD ((m + i) / 8) 0 >>> ((m + i) % 8)) % 2) <<< i % 2 ^ IntKind.u32.bits = cutN (num (sb s)) m (i + 1) := by
      rw [bit_num hb (by omega), cut_succ]
      have h2 : (num (sb s) >>> (m + i)) % 2 < 2 := Nat.mod_lt _ (by decide)
      have h3 : 2 ^ i ≤ 2 ^ 31 := Nat.pow_le_pow_right (by decide) (by omega)
      have h4 : ((num (sb s) >>> (m + i)) % 2) <<< i < 2 ^ IntKind.u32.bits := by
        rw [Nat.shiftLeft_eq]
        have : (num (sb s) >>> (m + i)) % 2 * 2 ^ i ≤ 1 * 2 ^ i := Nat.mul_le_mul_right _ (by omega)
        show _ < 2 ^ 32; omega
      rw [Nat.mod_eq_of_lt h4, or_shl hcl]
    repeat' (first
        | with_reducible refine C.seq ?_
        | with_reducible refine C.region ?_
        | with_reducible refine C.block ?_
        | with_reducible refine J.thn ?_
        | with_reducible refine O.nil ?_
        | with_reducible refine J.blkN ?_
        | with_reducible refine C.skip ?_
        | (show C _ _ (.region 7 _ true) _ _ _; refine C.drawnAll [4, 8, 10, 14, 18] (.take 0 (.take 1 (.take 2 (.take 3 (.takeS 4 (.take 5 (.take 6 (.take 7 (.takeS 8 (.take 9 (.takeS 10 (.take 11 (.take 12 (.take 13 (.takeS 14 (.take 15 (.take 16 (.take 17 (.takeS 18 (.take 19 (.take 20 (.take 21 (.take 22 .done))))))))))))))))))))))) (by kernel_rfl) (by (repeat (first | with_reducible exact NoPan.body | with_reducible exact NoPan.endS | with_reducible refine NoPan.thn ?_ | with_reducible refine NoPan.blk ?_)); first | done | fail) H ?_; intro w H hS)
        | (show O _ _ _ _ (⟨_, .binOp .add _ _ (.const _) _, _, _, _, none⟩ :: _) _ _; refine O.val (Val.addL rfl rfl (by first | omega | assumption | decide | with_reducible exact nself | with_reducible exact rfl)) ?_)
        | (show O _ _ _ _ (⟨_, .move _, _, _, _, none⟩ :: _) _ _; first | refine O.val (Val.moveI rfl) ?_ | refine O.val (Val.moveP rfl) ?_)
        | (show O _ _ _ _ (⟨_, .assign _, _, _, _, none⟩ :: _) _ _; refine O.val (Val.assignI rfl) ?_)
        | (show O _ _ _ _ (⟨_, .binOp .lss _ _ _ _, _, _, _, none⟩ :: _) _ _; refine O.val (Val.lss rfl rfl) ?_)
        | (show O _ _ _ _ (⟨_, .nilCheck _, _, _, _, none⟩ :: _) _ _; refine O.val (Val.nilCheck rfl) ?_)
        | (show O _ _ _ _ (⟨_, .fieldAddr _ _ _, _, _, _, none⟩ :: _) _ _; refine O.val (Val.fieldAddr rfl rfl) ?_)
        | (show O _ _ _ _ (⟨_, .load _ _, _, _, _, none⟩ :: _) _ _; refine O.val (Val.loadBox rfl (H.has) (by (repeat (first | exact List.mem_cons_self | refine List.mem_cons_of_mem _ ?_)); first | done | fail) rfl) ?_)
        | (show O _ _ _ _ (⟨_, .store _ _ _, _, _, _, none⟩ :: _) _ _; (refine O.storeBox rfl (by (conv => lhs; whnf); try rfl) (by first | rfl | exact (H.has).one (by (repeat (first | exact List.mem_cons_self | refine List.mem_cons_of_mem _ ?_)); first | done | fail) | exact (H.has).oneRo (by (repeat (first | exact List.mem_cons_self | refine List.mem_cons_of_mem _ ?_)); first | done | fail)) H (by (repeat (first | exact List.mem_cons_self | refine List.mem_cons_of_mem _ ?_)); first | done | fail) (by exact Nat.le_of_ble_eq_true rfl) (by (repeat (first | exact SetBox.here | apply SetBox.there)); first | done | fail) ?_; intro w H))
        | (show C _ _ (.cond _ _ _) _ _ _; refine C.ifT rfl (by first | omega | assumption | with_reducible exact nself | with_reducible exact rfl) ?_)
        | with_reducible refine D.done ?_
        | refine D.take rfl ?_
        | refine D.takeS rfl ?_
        | (show DT _ _ _ _ _ _ ⟨_, .binOp .quo _ _ (.const _) _, _, _, _, none⟩ _ _ _; refine DT.val (fun _ => Val.quoL rfl rfl (by first | omega | assumption | decide | with_reducible exact nself | with_reducible exact rfl) (by first | omega | assumption | decide | with_reducible exact nself | with_reducible exact rfl)) ?_)
        | (show DT _ _ _ _ _ _ ⟨_, .binOp .rem _ _ (.const _) _, _, _, _, none⟩ _ _ _; refine DT.val (fun _ => Val.remL rfl rfl (by first | omega | assumption | decide | with_reducible exact nself | with_reducible exact rfl)) ?_)
        | (show DT _ _ _ _ _ _ ⟨_, .move _, _, _, _, none⟩ _ _ _; first | refine DT.val (fun _ => Val.moveI rfl) ?_ | refine DT.val (fun _ => Val.moveP rfl) ?_)
        | (show DT _ _ _ _ _ _ ⟨_, .assign _, _, _, _, none⟩ _ _ _; refine DT.val (fun _ => Val.assignI rfl) ?_)
        | (show DT _ _ _ _ _ _ ⟨_, .binOp .and _ _ _ _, _, _, _, none⟩ _ _ _; refine DT.val (fun _ => Val.maskU 1 2 rfl rfl (by first | assumption | decide | ((repeat (first | assumption | decide | exact Fits.modU rfl | refine Fits.and ?_ | refine Fits.or ?_ ?_ | refine Fits.xor ?_ ?_ | refine Fits.shr ?_ | exact Fits.u8 (by first | omega | assumption) | exact Fits.u32 (by first | omega | assumption) | exact Fits.u64 (by first | omega | assumption) | exact Fits.i64 (by first | omega | assumption))); first | done | fail)) (by first | assumption | decide | ((repeat (first | assumption | decide | exact Fits.modU rfl | refine Fits.and ?_ | refine Fits.or ?_ ?_ | refine Fits.xor ?_ ?_ | refine Fits.shr ?_ | exact Fits.u8 (by first | omega | assumption) | exact Fits.u32 (by first | omega | assumption) | exact Fits.u64 (by first | omega | assumption) | exact Fits.i64 (by first | omega | assumption))); first | done | fail)) (by exact rfl) (by decide)) ?_)
        | (show DT _ _ _ _ _ _ ⟨_, .binOp .or _ _ _ _, _, _, _, none⟩ _ _ _; refine DT.val (fun _ => Val.orN rfl rfl (by first | assumption | decide | ((repeat (first | assumption | decide | exact Fits.modU rfl | refine Fits.and ?_ | refine Fits.or ?_ ?_ | refine Fits.xor ?_ ?_ | refine Fits.shr ?_ | exact Fits.u8 (by first | omega | assumption) | exact Fits.u32 (by first | omega | assumption) | exact Fits.u64 (by first | omega | assumption) | exact Fits.i64 (by first | omega | assumption))); first | done | fail)) (by first | assumption | decide | ((repeat (first | assumption | decide | exact Fits.modU rfl | refine Fits.and ?_ | refine Fits.or ?_ ?_ | refine Fits.xor ?_ ?_ | refine Fits.shr ?_ | exact Fits.u8 (by first | omega | assumption) | exact Fits.u32 (by first | omega | assumption) | exact Fits.u64 (by first | omega | assumption) | exact Fits.i64 (by first | omega | assumption))); first | done | fail))) ?_)
        | (show DT _ _ _ _ _ _ ⟨_, .binOp .shr _ _ _ _, _, _, _, none⟩ _ _ _; refine DT.val (fun _ => Val.shrF rfl rfl (by first | assumption | decide | ((repeat (first | assumption | decide | exact Fits.modU rfl | refine Fits.and ?_ | refine Fits.or ?_ ?_ | refine Fits.xor ?_ ?_ | refine Fits.shr ?_ | exact Fits.u8 (by first | omega | assumption) | exact Fits.u32 (by first | omega | assumption) | exact Fits.u64 (by first | omega | assumption) | exact Fits.i64 (by first | omega | assumption))); first | done | fail))) ?_)
        | (show DT _ _ _ _ _ _ ⟨_, .binOp .shl _ _ _ _, _, _, _, none⟩ _ _ _; refine DT.val (fun _ => Val.shlU rfl rfl rfl) ?_)
        | (show DT _ _ _ _ _ _ ⟨_, .nilCheck _, _, _, _, none⟩ _ _ _; refine DT.val (fun _ => Val.nilCheck rfl) ?_)
        | (show DT _ _ _ _ _ _ ⟨_, .fieldAddr _ _ _, _, _, _, none⟩ _ _ _; refine DT.val (fun _ => Val.fieldAddr rfl rfl) ?_)
        | (show DS _ _ _ _ _ _ ⟨_, .convert _ _ _, _, _, _, none⟩ _ _ _; refine DS.val (by first | exact hS | exact H.has.mono (by (repeat (first | exact Sub.refl | exact Sub.nil | refine Sub.mem (by (repeat (first | exact List.mem_cons_self | refine List.mem_cons_of_mem _ ?_)); first | done | fail) ?_ | refine Sub.cons ?_)); first | done | fail)) (fun _ hS => Val.convN rfl (by first | assumption | decide | ((repeat (first | assumption | decide | exact Fits.modU rfl | refine Fits.and ?_ | refine Fits.or ?_ ?_ | refine Fits.xor ?_ ?_ | refine Fits.shr ?_ | exact Fits.u8 (by first | omega | assumption) | exact Fits.u32 (by first | omega | assumption) | exact Fits.u64 (by first | omega | assumption) | exact Fits.i64 (by first | omega | assumption))); first | done | fail))) ?_)
        | (show DS _ _ _ _ _ _ ⟨_, .load _ _, _, _, _, none⟩ _ _ _; refine DS.val (by first | exact hS | exact H.has.mono (by (repeat (first | exact Sub.refl | exact Sub.nil | refine Sub.mem (by (repeat (first | exact List.mem_cons_self | refine List.mem_cons_of_mem _ ?_)); first | done | fail) ?_ | refine Sub.cons ?_)); first | done | fail)) (fun _ hS => Val.loadBox rfl (hS) (by (repeat (first | exact List.mem_cons_self | refine List.mem_cons_of_mem _ ?_)); first | done | fail) rfl) ?_)
        | (show DS _ _ _ _ _ _ ⟨_, .index _ _ _, _, _, _, none⟩ _ _ _; refine DS.val (by first | exact hS | exact H.has.mono (by (repeat (first | exact Sub.refl | exact Sub.nil | refine Sub.mem (by (repeat (first | exact List.mem_cons_self | refine List.mem_cons_of_mem _ ?_)); first | done | fail) ?_ | refine Sub.cons ?_)); first | done | fail)) (fun _ hS => Val.idxStr rfl rfl (by first | omega | assumption | decide | with_reducible exact nself | with_reducible exact rfl)) ?_)
        )
    exact ⟨n - (i + 1), i + 1, by omega, ⟨H, by omega, rfl⟩, ⟨rfl, rfl, by rw [← hst]; rfl, rfl, trivial⟩⟩
  · repeat' (first
      | with_reducible refine C.seq ?_
      | with_reducible refine C.region ?_
      | with_reducible refine J.thn ?_
      | with_reducible refine O.nil ?_
      | with_reducible refine C.exit ?_
      | with_reducible refine C.ret ?_
      | with_reducible refine J.thnE ?_
      | with_reducible refine J.blkE ?_
      | with_reducible refine J.bodyR ?_
      | (show O _ _ _ _ (⟨_, .move _, _, _, _, none⟩ :: _) _ _; refine O.val (Val.moveI rfl) ?_)
      | (show O _ _ _ _ (⟨_, .assign _, _, _, _, none⟩ :: _) _ _; first | refine O.val (Val.assignI rfl) ?_ | refine O.val (Val.assignB rfl) ?_)
      | (show O _ _ _ _ (⟨_, .binOp .lss _ _ _ _, _, _, _, none⟩ :: _) _ _; refine O.val (Val.lss rfl rfl) ?_)
      | (show C _ _ (.cond _ _ _) _ _ _; refine C.ifF rfl (by first | omega | assumption | with_reducible exact nself | with_reducible exact rfl) ?_)
      )
    have : i = n := by omega
    subst this
    exact ⟨rfl, H⟩
theorem bitPeek_call {w0 w : World} {L : List Res} {p : Nat} {s : ByteArray} {m : Nat} {z : Int} (H : Own w0 w (bitL p s m L)) (hl : (sb s).length ≤ 1000000) (hm : m ≤ 8 * (sb s).length) :
    Call Try.prog 47 #[.pointer (some ⟨p, 0, none⟩), .int .i64 z] w fun r w' => r = .tuple #[.int .u32 (cutN (num (sb s)) m (pkN z (8 * (sb s).length - m)) : Nat), .int .i64 (pkN z (8 * (sb s).length - m) : Nat)] ∧ Own w0 w' (bitL p s m L) := by
  refine Call.of (n := 33) (rs := [4, 5]) Try.func47 rfl rfl rfl (by decide) (Nat.le_of_ble_eq_true rfl) ?_
  obtain ⟨n, hn⟩ : ∃ n, n = pkN z (8 * (sb s).length - m) := ⟨_, rfl⟩
  have hn32 : n ≤ 32 ∧ n ≤ 8 * (sb s).length - m := by rw [hn]; unfold pkN; omega
  have hmin : Value.int .i64 ((min (min z.toNat 32) (8 * (sb s).length - m) : Nat) : Int) = .int .i64 (n : Int) := by
    rw [hn]; unfold pkN; congr 1; omega
  rw [← hn]
  repeat' (first
      | with_reducible refine C.seq ?_
      | with_reducible refine C.region ?_
      | with_reducible refine J.thn ?_
      | with_reducible refine O.nil ?_
      | with_reducible refine C.ret ?_
      | with_reducible refine J.bodyR ?_
      | (show O _ _ _ _ (⟨_, .call { callee := .value (.func 53), args := _, argTypes := _ }, _, _, _, none⟩ :: _) _ _; refine O.call rfl (bitLeft_call H hl hm) ?_; rintro _ w ⟨rfl, H⟩)
      | (show O _ _ _ _ (⟨_, .call { callee := .builtin .min, args := #[_, .tmp _], argTypes := _ }, _, _, _, none⟩ :: _) _ _; refine O.val (Val.as (Val.minN rfl rfl) hmin) ?_)
      | (show O _ _ _ _ (⟨_, .call { callee := .value (.func 46), args := _, argTypes := _ }, _, _, _, none⟩ :: _) _ _; refine O.call rfl (bitTake_yes (n := n) H hl (by omega) (by omega)) ?_; rintro _ w ⟨rfl, H⟩)
      | (show O _ _ _ _ (⟨_, .call { callee := .builtin .min, args := #[_, .const _], argTypes := _ }, _, _, _, none⟩ :: _) _ _; refine O.val (Val.minL rfl rfl) ?_)
      | (show O _ _ _ _ (⟨_, .call { callee := .builtin .max, args := #[_, .const _], argTypes := _ }, _, _, _, none⟩ :: _) _ _; refine O.val (Val.maxZ rfl rfl) ?_)
      | (show O _ _ _ _ (⟨_, .move _, _, _, _, none⟩ :: _) _ _; first | refine O.val (Val.moveI rfl) ?_ | refine O.val (Val.moveP rfl) ?_ | refine O.val (Val.moveV (by (conv => lhs; whnf); try rfl)) ?_)
      | (show O _ _ _ _ (⟨_, .assign _, _, _, _, none⟩ :: _) _ _; first | refine O.val (Val.assignI rfl) ?_ | refine O.val (Val.assignB rfl) ?_)
      | (show O _ _ _ _ (⟨_, .nilCheck _, _, _, _, none⟩ :: _) _ _; refine O.val (Val.nilCheck rfl) ?_)
      | (show O _ _ _ _ (⟨_, .fieldAddr _ _ _, _, _, _, none⟩ :: _) _ _; refine O.val (Val.fieldAddr rfl rfl) ?_)
      | (show O _ _ _ _ (⟨_, .extract _ _, _, _, _, none⟩ :: _) _ _; refine O.val (Val.extract rfl rfl) ?_)
      | (show O _ _ _ _ (⟨_, .load _ _, _, _, _, none⟩ :: _) _ _; refine O.val (Val.loadBox rfl (H.has) (by (repeat (first | exact List.mem_cons_self | refine List.mem_cons_of_mem _ ?_)); first | done | fail) rfl) ?_)
      | (show O _ _ _ _ (⟨_, .store _ _ _, _, _, _, none⟩ :: _) _ _; (refine O.storeBox rfl (by (conv => lhs; whnf); try rfl) (by first | rfl | exact (H.has).one (by (repeat (first | exact List.mem_cons_self | refine List.mem_cons_of_mem _ ?_)); first | done | fail) | exact (H.has).oneRo (by (repeat (first | exact List.mem_cons_self | refine List.mem_cons_of_mem _ ?_)); first | done | fail)) H (by (repeat (first | exact List.mem_cons_self | refine List.mem_cons_of_mem _ ?_)); first | done | fail) (by exact Nat.le_of_ble_eq_true rfl) (by (repeat (first | exact SetBox.here | apply SetBox.there)); first | done | fail) ?_; intro w H))
      )
  exact ⟨rfl, H⟩
theorem bitBytes_no {w0 w : World} {L : List Res} {p : Nat} {s : ByteArray} {m : Nat} {z : Int} (H : Own w0 w (bitL p s m L)) (hl : (sb s).length ≤ 1000000) (hm : m ≤ 8 * (sb s).length) (hz : z < 0 ∨ ((sb s).length - (m + 7) / 8 : Nat) < z) :
    Call Try.prog 51 #[.pointer (some ⟨p, 0, none⟩), .int .i64 z] w fun r w' => r = .tuple #[.string ByteArray.empty, .bool false] ∧ Own w0 w' (bitL p s ((m + 7) / 8 * 8) L) := by
  refine Call.of (n := 46) (rs := [4, 5]) Try.func51 rfl rfl rfl (by decide) (Nat.le_of_ble_eq_true rfl) ?_
  by_cases h0 : z < 0
  · repeat' (first
      | with_reducible refine C.seq ?_
      | with_reducible refine C.region ?_
      | with_reducible refine J.thn ?_
      | with_reducible refine O.nil ?_
      | with_reducible refine C.ret ?_
      | with_reducible refine J.thnR ?_
      | with_reducible refine J.bodyR ?_
      | (show O _ _ _ _ (⟨_, .call { callee := .value (.func 49), args := _, argTypes := _ }, _, _, _, none⟩ :: _) _ _; refine O.call rfl (bitAlign_call H (by omega)) ?_; rintro _ w H)
      | (show O _ _ _ _ (⟨_, .move _, _, _, _, none⟩ :: _) _ _; first | refine O.val (Val.moveI rfl) ?_ | refine O.val (Val.moveB rfl) ?_ | refine O.val (Val.moveP rfl) ?_)
      | (show O _ _ _ _ (⟨_, .assign _, _, _, _, none⟩ :: _) _ _; first | refine O.val (Val.assignB rfl) ?_ | refine O.val (Val.assignV (by (conv => lhs; whnf); try rfl)) ?_)
      | (show O _ _ _ _ (⟨_, .binOp .lss _ _ _ _, _, _, _, none⟩ :: _) _ _; refine O.val (Val.lss rfl rfl) ?_)
      | (show O _ _ _ _ (⟨_, .pick _ _ _, _, _, _, none⟩ :: _) _ _; refine O.val (Val.pickDT rfl (by first | omega | assumption | decide | with_reducible exact nself | with_reducible exact rfl)) ?_)
      | (show O _ _ _ _ (⟨_, _, _, _, _, some _⟩ :: _) _ _; refine O.sT rfl rfl (by first | omega | assumption | with_reducible exact nself | with_reducible exact rfl) rfl ?_)
      | (show C _ _ (.cond _ _ _) _ _ _; with_reducible refine C.condT rfl rfl ?_)
      )
    exact ⟨rfl, H⟩
  · repeat' (first
      | with_reducible refine C.seq ?_
      | with_reducible refine C.region ?_
      | with_reducible refine J.thn ?_
      | with_reducible refine O.nil ?_
      | with_reducible refine C.ret ?_
      | with_reducible refine J.thnR ?_
      | with_reducible refine J.bodyR ?_
      | (show O _ _ _ _ (⟨_, .call { callee := .value (.func 49), args := _, argTypes := _ }, _, _, _, none⟩ :: _) _ _; refine O.call rfl (bitAlign_call H (by omega)) ?_; rintro _ w H)
      | (show O _ _ _ _ (⟨_, .call { callee := .value (.func 53), args := _, argTypes := _ }, _, _, _, none⟩ :: _) _ _; refine O.call rfl (bitLeft_call H hl (by omega)) ?_; rintro _ w ⟨rfl, H⟩)
      | (show O _ _ _ _ (⟨_, .binOp .quo _ _ (.const _) _, _, _, _, none⟩ :: _) _ _; refine O.val (Val.quoL rfl rfl (by first | omega | assumption | decide | with_reducible exact nself | with_reducible exact rfl) (by first | omega | assumption | decide | with_reducible exact nself | with_reducible exact rfl)) ?_)
      | (show O _ _ _ _ (⟨_, .move _, _, _, _, none⟩ :: _) _ _; first | refine O.val (Val.moveI rfl) ?_ | refine O.val (Val.moveB rfl) ?_ | refine O.val (Val.moveP rfl) ?_)
      | (show O _ _ _ _ (⟨_, .assign _, _, _, _, none⟩ :: _) _ _; first | refine O.val (Val.assignB rfl) ?_ | refine O.val (Val.assignV (by (conv => lhs; whnf); try rfl)) ?_)
      | (show O _ _ _ _ (⟨_, .binOp .lss _ _ _ _, _, _, _, none⟩ :: _) _ _; refine O.val (Val.lss rfl rfl) ?_)
      | (show O _ _ _ _ (⟨_, .binOp .gtr _ _ _ _, _, _, _, none⟩ :: _) _ _; refine O.val (Val.gtr rfl rfl) ?_)
      | (show O _ _ _ _ (⟨_, .pick _ _ _, _, _, _, none⟩ :: _) _ _; refine O.val (Val.pickDF rfl (by first | omega | assumption | decide | with_reducible exact nself | with_reducible exact rfl)) ?_)
      | (show O _ _ _ _ (⟨_, _, _, _, _, some _⟩ :: _) _ _; refine O.gF rfl rfl (by first | omega | assumption | with_reducible exact nself | with_reducible exact rfl) rfl ?_)
      | (show C _ _ (.cond _ _ _) _ _ _; refine C.ifT rfl (by first | omega | assumption | with_reducible exact nself | with_reducible exact rfl) ?_)
      )
    exact ⟨rfl, H⟩
theorem bitBytes_yes {w0 w : World} {L : List Res} {p : Nat} {s : ByteArray} {m n : Nat} (H : Own w0 w (bitL p s m L)) (hl : (sb s).length ≤ 1000000) (hm : m ≤ 8 * (sb s).length) (hn : n ≤ (sb s).length - (m + 7) / 8) :
    Call Try.prog 51 #[.pointer (some ⟨p, 0, none⟩), .int .i64 (n : Int)] w fun r w' => r = .tuple #[.string (bst (((sb s).drop ((m + 7) / 8)).take n)), .bool true] ∧ Own w0 w' (bitL p s ((m + 7) / 8 * 8 + 8 * n) L) := by
  refine Call.of (n := 46) (rs := [4, 5]) Try.func51 rfl rfl rfl (by decide) (Nat.le_of_ble_eq_true rfl) ?_
  have hcut : Value.string (bst (((sb s).drop (((m + 7) / 8 * 8 / 8 : Nat) : Int).toNat).take (((((m + 7) / 8 * 8 / 8 + n : Nat)) : Int).toNat - (((m + 7) / 8 * 8 / 8 : Nat) : Int).toNat))) = .string (bst (((sb s).drop ((m + 7) / 8)).take n)) := by
    have e1 : (((m + 7) / 8 * 8 / 8 : Nat) : Int).toNat = (m + 7) / 8 := by omega
    have e2 : ((((m + 7) / 8 * 8 / 8 + n : Nat)) : Int).toNat - (m + 7) / 8 = n := by omega
    rw [e1, e2]
  repeat' (first
      | with_reducible refine C.seq ?_
      | with_reducible refine C.region ?_
      | with_reducible refine J.thn ?_
      | with_reducible refine O.nil ?_
      | with_reducible refine C.skip ?_
      | with_reducible refine C.ret ?_
      | with_reducible refine J.bodyR ?_
      | (show C _ _ (.region 4 _ true) _ _ _; refine C.drawnAll [3, 7, 12, 16] (.take 0 (.take 1 (.take 2 (.takeS 3 (.take 4 (.take 5 (.take 6 (.takeS 7 (.take 8 (.take 9 (.take 10 (.take 11 (.takeS 12 (.take 13 (.take 14 (.take 15 (.takeS 16 (.take 17 .done)))))))))))))))))) (by kernel_rfl) (by (repeat (first | with_reducible exact NoPan.body | with_reducible exact NoPan.endS | with_reducible refine NoPan.thn ?_ | with_reducible refine NoPan.blk ?_)); first | done | fail) H ?_; intro w H hS)
      | (show O _ _ _ _ (⟨_, .call { callee := .value (.func 49), args := _, argTypes := _ }, _, _, _, none⟩ :: _) _ _; refine O.call rfl (bitAlign_call H (by omega)) ?_; rintro _ w H)
      | (show O _ _ _ _ (⟨_, .call { callee := .value (.func 53), args := _, argTypes := _ }, _, _, _, none⟩ :: _) _ _; refine O.call rfl (bitLeft_call H hl (by omega)) ?_; rintro _ w ⟨rfl, H⟩)
      | (show DS _ _ _ _ _ _ (⟨_, .slice _ _ (some _) (some _) none, _, _, _, none⟩) _ _ _; refine DS.val (H.has.mono (by (repeat (first | exact Sub.refl | exact Sub.nil | refine Sub.mem (by (repeat (first | exact List.mem_cons_self | refine List.mem_cons_of_mem _ ?_)); first | done | fail) ?_ | refine Sub.cons ?_)); first | done | fail)) (fun _ _ => Val.as (Val.cutStr rfl rfl rfl (by omega) (by omega) (by omega)) hcut) ?_)
      | (show O _ _ _ _ (⟨_, .binOp .mul _ (.const _) _ _, _, _, _, none⟩ :: _) _ _; refine O.val (Val.mulLl rfl rfl (by first | omega | assumption | decide | with_reducible exact nself | with_reducible exact rfl)) ?_)
      | (show O _ _ _ _ (⟨_, .binOp .quo _ _ (.const _) _, _, _, _, none⟩ :: _) _ _; refine O.val (Val.quoL rfl rfl (by first | omega | assumption | decide | with_reducible exact nself | with_reducible exact rfl) (by first | omega | assumption | decide | with_reducible exact nself | with_reducible exact rfl)) ?_)
      | (show O _ _ _ _ (⟨_, .move _, _, _, _, none⟩ :: _) _ _; first | refine O.val (Val.moveI rfl) ?_ | refine O.val (Val.moveB rfl) ?_ | refine O.val (Val.moveP rfl) ?_ | refine O.val (Val.moveV (by (conv => lhs; whnf); try rfl)) ?_)
      | (show O _ _ _ _ (⟨_, .assign _, _, _, _, none⟩ :: _) _ _; first | refine O.val (Val.assignB rfl) ?_ | refine O.val (Val.assignV (by (conv => lhs; whnf); try rfl)) ?_)
      | (show O _ _ _ _ (⟨_, .binOp .lss _ _ _ _, _, _, _, none⟩ :: _) _ _; refine O.val (Val.lss rfl rfl) ?_)
      | (show O _ _ _ _ (⟨_, .binOp .gtr _ _ _ _, _, _, _, none⟩ :: _) _ _; refine O.val (Val.gtr rfl rfl) ?_)
      | (show O _ _ _ _ (⟨_, .binOp .add _ _ _ _, _, _, _, none⟩ :: _) _ _; refine O.val (Val.addN rfl rfl (by first | omega | assumption | decide | with_reducible exact nself | with_reducible exact rfl)) ?_)
      | (show O _ _ _ _ (⟨_, .nilCheck _, _, _, _, none⟩ :: _) _ _; refine O.val (Val.nilCheck rfl) ?_)
      | (show O _ _ _ _ (⟨_, .fieldAddr _ _ _, _, _, _, none⟩ :: _) _ _; refine O.val (Val.fieldAddr rfl rfl) ?_)
      | (show O _ _ _ _ (⟨_, .pick _ _ _, _, _, _, none⟩ :: _) _ _; refine O.val (Val.pickF rfl rfl) ?_)
      | (show O _ _ _ _ (⟨_, .load _ _, _, _, _, none⟩ :: _) _ _; refine O.val (Val.loadBox rfl (H.has) (by (repeat (first | exact List.mem_cons_self | refine List.mem_cons_of_mem _ ?_)); first | done | fail) rfl) ?_)
      | (show O _ _ _ _ (⟨_, _, _, _, _, some _⟩ :: _) _ _; refine O.gyes rfl rfl rfl ?_)
      | (show O _ _ _ _ (⟨_, .store _ _ _, _, _, _, none⟩ :: _) _ _; (refine O.storeBox rfl (by (conv => lhs; whnf); try rfl) (by first | rfl | exact (H.has).one (by (repeat (first | exact List.mem_cons_self | refine List.mem_cons_of_mem _ ?_)); first | done | fail) | exact (H.has).oneRo (by (repeat (first | exact List.mem_cons_self | refine List.mem_cons_of_mem _ ?_)); first | done | fail)) H (by (repeat (first | exact List.mem_cons_self | refine List.mem_cons_of_mem _ ?_)); first | done | fail) (by exact Nat.le_of_ble_eq_true rfl) (by (repeat (first | exact SetBox.here | apply SetBox.there)); first | done | fail) ?_; intro w H))
      | (show C _ _ (.cond _ _ _) _ _ _; refine C.ifF rfl (by first | omega | assumption | with_reducible exact nself | with_reducible exact rfl) ?_)
      | with_reducible refine D.done ?_
      | refine D.take rfl ?_
      | refine D.takeS rfl ?_
      | (show DT _ _ _ _ _ _ ⟨_, .binOp .quo _ _ (.const _) _, _, _, _, none⟩ _ _ _; refine DT.val (fun _ => Val.quoL rfl rfl (by first | omega | assumption | decide | with_reducible exact nself | with_reducible exact rfl) (by first | omega | assumption | decide | with_reducible exact nself | with_reducible exact rfl)) ?_)
      | (show DT _ _ _ _ _ _ ⟨_, .move _, _, _, _, none⟩ _ _ _; first | refine DT.val (fun _ => Val.moveI rfl) ?_ | refine DT.val (fun _ => Val.moveP rfl) ?_)
      | (show DT _ _ _ _ _ _ ⟨_, .assign _, _, _, _, none⟩ _ _ _; refine DT.val (fun _ => Val.assignV (by (conv => lhs; whnf); try rfl)) ?_)
      | (show DT _ _ _ _ _ _ ⟨_, .binOp .add _ _ _ _, _, _, _, none⟩ _ _ _; refine DT.val (fun _ => Val.addN rfl rfl (by first | omega | assumption | decide | with_reducible exact nself | with_reducible exact rfl)) ?_)
      | (show DT _ _ _ _ _ _ ⟨_, .nilCheck _, _, _, _, none⟩ _ _ _; refine DT.val (fun _ => Val.nilCheck rfl) ?_)
      | (show DT _ _ _ _ _ _ ⟨_, .fieldAddr _ _ _, _, _, _, none⟩ _ _ _; refine DT.val (fun _ => Val.fieldAddr rfl rfl) ?_)
      | (show DS _ _ _ _ _ _ ⟨_, .load _ _, _, _, _, none⟩ _ _ _; refine DS.val (by first | exact hS | exact H.has.mono (by (repeat (first | exact Sub.refl | exact Sub.nil | refine Sub.mem (by (repeat (first | exact List.mem_cons_self | refine List.mem_cons_of_mem _ ?_)); first | done | fail) ?_ | refine Sub.cons ?_)); first | done | fail)) (fun _ hS => Val.loadBox rfl (hS) (by (repeat (first | exact List.mem_cons_self | refine List.mem_cons_of_mem _ ?_)); first | done | fail) rfl) ?_)
      )
  exact ⟨rfl, H⟩
end Go.Proofs.Ytmffpmmhdianeaa.X
