/- The law LzSymbols, walked. Nothing is assumed. -/
import Derived.Test.YtcibdcfdchpnpaaLzAw
namespace Go.Proofs.Ytcibdcfdchpnpaa.X
open Go Go.RowKit
set_option linter.unusedSimpArgs false
set_option linter.unusedVariables false
set_option maxRecDepth 100000
theorem symL_back : ∀ s : Fin 29, ∀ v : Fin 32, v.val < 2 ^ lenExtra (257 + s.val) → ¬ (s.val = 27 ∧ v.val = 31) → symL (lenBase (257 + s.val) + v.val) 28 = s.val ∧ lenBase (257 + s.val) + v.val ≤ 258 ∧ 3 ≤ lenBase (257 + s.val) + v.val := by decide +kernel
theorem lenExtra_le : ∀ s : Fin 286, lenExtra s.val ≤ 5 := by decide +kernel
theorem distExtra_le : ∀ s : Fin 30, distExtra s.val ≤ 13 := by decide +kernel
theorem lenBase_rise : ∀ s : Fin 285, 257 ≤ s.val → lenBase s.val < lenBase (s.val + 1) := by decide +kernel
theorem dist_rise : ∀ j d : Fin 30, d.val < j.val → distBase d.val + 2 ^ distExtra d.val ≤ distBase j.val := by decide +kernel
theorem dist_top : ∀ d : Fin 30, distBase d.val + 2 ^ distExtra d.val ≤ 32769 ∧ 1 ≤ distBase d.val := by decide +kernel
theorem symD_eq {n d : Nat} (hd : distBase d ≤ n) : ∀ k, d ≤ k → (∀ j, d < j → j ≤ k → n < distBase j) → symD n k = d
  | 0, h, _ => by have : d = 0 := by omega
                  subst this; rfl
  | k + 1, h, hj => by
    unfold symD
    by_cases hk : d = k + 1
    · rw [if_pos (by rw [← hk]; exact hd)]; exact hk.symm
    · rw [if_neg (Nat.not_le.2 (hj (k + 1) (by omega) (Nat.le_refl _)))]
      exact symD_eq hd k (by omega) (fun j h1 h2 => hj j h1 (by omega))
theorem ones32 {e : Nat} (he : e ≤ 31) : (1 <<< e) % 2 ^ IntKind.u32.bits = 2 ^ e := by
  rw [Nat.shiftLeft_eq, Nat.one_mul]
  exact Nat.mod_eq_of_lt (Nat.pow_lt_pow_right (by decide) (show e < 32 by omega))
theorem mask32 (x : Nat) {e : Nat} (he : e ≤ 31) : x &&& ((1 <<< e) % 2 ^ IntKind.u32.bits - 1) = x % 2 ^ e := by
  rw [ones32 he]; exact Nat.and_two_pow_sub_one_eq_mod x e
set_option maxHeartbeats 4000000 in
theorem symsLaw_call {w0 w : World} {z : Int} {x : Nat} (H : Own w0 w []) (hx : Fits .u32 x) :
    Call Try.prog 10 #[.int .i64 z, .int .u32 x] w fun r w' => r = .bool true ∧ Own w0 w' [] := by
  refine Call.of (n := 154) (rs := [4]) Try.func10 rfl rfl rfl (by decide) (Nat.le_of_ble_eq_true rfl) ?_
  obtain ⟨s, hs⟩ : ∃ s, s = lowM z 256 % 29 + 257 := ⟨_, rfl⟩
  obtain ⟨d, hd⟩ : ∃ d, d = lowM z 256 % 30 := ⟨_, rfl⟩
  have hs1 : 257 ≤ s ∧ s ≤ 285 := by omega
  have hd1 : d < 30 := by omega
  have es : Value.int .i64 ((lowM z 256 % 29 + 257 : Nat) : Int) = .int .i64 (s : Int) := by rw [hs]
  have ed : Value.int .i64 ((lowM z 256 % 30 : Nat) : Int) = .int .i64 (d : Int) := by rw [hd]
  have hle := lenExtra_le ⟨s, by omega⟩
  have hde := distExtra_le ⟨d, hd1⟩
  have hlb := lenBase_le ⟨s, by omega⟩
  have hdt := dist_top ⟨d, hd1⟩
  simp only at hle hde hlb hdt
  obtain ⟨v, hv⟩ : ∃ v, v = x % 2 ^ lenExtra s := ⟨_, rfl⟩
  obtain ⟨u, hu⟩ : ∃ u, u = x % 2 ^ distExtra d := ⟨_, rfl⟩
  have ev_ : Value.int .u32 ((x &&& ((1 <<< lenExtra s) % 2 ^ IntKind.u32.bits - 1) : Nat) : Int) = .int .u32 (v : Int) := by rw [mask32 x (by omega), hv]
  have eu : Value.int .u32 ((x &&& ((1 <<< distExtra d) % 2 ^ IntKind.u32.bits - 1) : Nat) : Int) = .int .u32 (u : Int) := by rw [mask32 x (by omega), hu]
  have hp1 : 1 ≤ (1 <<< lenExtra s) % 2 ^ IntKind.u32.bits := by rw [ones32 (by omega)]; exact Nat.pow_pos (by decide)
  have hp2 : 1 ≤ (1 <<< distExtra d) % 2 ^ IntKind.u32.bits := by rw [ones32 (by omega)]; exact Nat.pow_pos (by decide)
  have hf1 : Fits .u32 ((1 <<< lenExtra s) % 2 ^ IntKind.u32.bits - 1) := Nat.lt_of_le_of_lt (Nat.sub_le _ _) (Fits.modU rfl)
  have hf2 : Fits .u32 ((1 <<< distExtra d) % 2 ^ IntKind.u32.bits - 1) := Nat.lt_of_le_of_lt (Nat.sub_le _ _) (Fits.modU rfl)
  have hvlt : v < 2 ^ lenExtra s := by rw [hv]; exact Nat.mod_lt _ (Nat.pow_pos (by decide))
  have hult : u < 2 ^ distExtra d := by rw [hu]; exact Nat.mod_lt _ (Nat.pow_pos (by decide))
  have hv32 : v < 32 := Nat.lt_of_lt_of_le hvlt (Nat.pow_le_pow_right (by decide) (show lenExtra s ≤ 5 from hle))
  have hu13 : u < 8192 := Nat.lt_of_lt_of_le hult (Nat.pow_le_pow_right (by decide) (show distExtra d ≤ 13 from hde))
  have hsd : symD (distBase d + u) 29 = d := symD_eq (Nat.le_add_right _ _) 29 (by omega) (fun j h1 h2 => by
    have := dist_rise ⟨j, by omega⟩ ⟨d, hd1⟩ h1
    simp only at this; omega)
  have hsv : s - 257 < 29 := by omega
  have e257 : 257 + (s - 257) = s := by omega
  -- what is looked up: v, or 30
  have main : ∀ v', v' < 32 → v' < 2 ^ lenExtra s → ¬ (s = 284 ∧ v' = 31) → 257 + symL (lenBase s + v') 28 = s ∧ lenBase s + v' ≤ 258 ∧ 3 ≤ lenBase s + v' := fun v' h1 h2 h3 => by
    have := symL_back ⟨s - 257, hsv⟩ ⟨v', h1⟩ (by simp only [e257]; exact h2) (by simp only; omega)
    simp only [e257] at this
    omega
  by_cases hsp : s = 284 ∧ v = 31
  · have hm := main 30 (by decide) (by rw [hsp.1]; decide) (by omega)
    have hrise := lenBase_rise ⟨s, by omega⟩ hs1.1
    simp only at hrise
    repeat' (first
        | with_reducible refine C.seq ?_
        | with_reducible refine C.region ?_
        | with_reducible refine J.thn ?_
        | with_reducible refine O.nil ?_
        | with_reducible refine C.skip ?_
        | with_reducible refine C.ret ?_
        | with_reducible refine J.bodyR ?_
        | (show O _ _ _ _ (⟨some 55, .binOp .add _ _ _ _, _, _, _, none⟩ :: _) _ _; refine O.val (Val.addN (b := 30) rfl rfl (by omega)) ?_)
        | (show O _ _ _ _ (⟨some 33, .binOp .add _ _ _ _, _, _, _, none⟩ :: _) _ _; refine O.val (Val.as (Val.addL rfl rfl (by omega)) es) ?_)
        | (show O _ _ _ _ (⟨some 62, .binOp .rem _ _ _ _, _, _, _, none⟩ :: _) _ _; refine O.val (Val.as (Val.remL rfl rfl (by decide)) ed) ?_)
        | (show O _ _ _ _ (⟨some 44, .binOp .and _ _ _ _, _, _, _, none⟩ :: _) _ _; refine O.val (Val.as (Val.andN rfl rfl hx hf1) ev_) ?_)
        | (show O _ _ _ _ (⟨some 73, .binOp .and _ _ _ _, _, _, _, none⟩ :: _) _ _; refine O.val (Val.as (Val.andN rfl rfl hx hf2) eu) ?_)
        | (show O _ _ _ _ (⟨some 36, .call { callee := .value (.func 33), args := _, argTypes := _ }, _, _, _, none⟩ :: _) _ _; refine O.call rfl (symLen_call (s := s) H hs1.1 hs1.2) ?_; rintro _ w ⟨rfl, H⟩)
        | (show O _ _ _ _ (⟨some 56, .call { callee := .value (.func 34), args := _, argTypes := _ }, _, _, _, none⟩ :: _) _ _; refine O.call rfl (lenSym_call (n := lenBase s + 30) H hm.2.2 hm.2.1) ?_; rintro _ w ⟨rfl, H⟩; rw [hm.1, Nat.add_sub_cancel_left])
        | (show O _ _ _ _ (⟨some 65, .call { callee := .value (.func 35), args := _, argTypes := _ }, _, _, _, none⟩ :: _) _ _; refine O.call rfl (symDist_call (s := d) H hd1) ?_; rintro _ w ⟨rfl, H⟩)
        | (show O _ _ _ _ (⟨some 79, .call { callee := .value (.func 36), args := _, argTypes := _ }, _, _, _, none⟩ :: _) _ _; refine O.call rfl (distSym_call (n := distBase d + u) H (by omega) (by omega)) ?_; rintro _ w ⟨rfl, H⟩; rw [hsd, Nat.add_sub_cancel_left])
        | (show O _ _ _ _ (⟨some 124, .call { callee := .value (.func 33), args := _, argTypes := _ }, _, _, _, none⟩ :: _) _ _; refine O.call rfl (symLen_call (s := s + 1) H (by omega) (by omega)) ?_; rintro _ w ⟨rfl, H⟩)
        | (show O _ _ _ _ (⟨some 136, .call { callee := .value (.func 33), args := _, argTypes := _ }, _, _, _, none⟩ :: _) _ _; refine O.call rfl (symLen_no (z := 256) H (by decide) (by decide) (by decide)) ?_; rintro _ w ⟨rfl, H⟩)
        | (show O _ _ _ _ (⟨some 141, .call { callee := .value (.func 35), args := _, argTypes := _ }, _, _, _, none⟩ :: _) _ _; refine O.call rfl (symDist_no (z := 30) H (by decide)) ?_; rintro _ w ⟨rfl, H⟩)
        | (show O _ _ _ _ (⟨_, .call { callee := .value (.func 29), args := _, argTypes := _ }, _, _, _, none⟩ :: _) _ _; refine O.call rfl (awakeL_call H) ?_; rintro _ w ⟨rfl, H⟩)
        | (show O _ _ _ _ (⟨_, .binOp .add _ _ (.const _) _, _, _, _, none⟩ :: _) _ _; refine O.val (Val.addL rfl rfl (by first | omega | assumption | decide | with_reducible exact nself | with_reducible exact rfl)) ?_)
        | (show O _ _ _ _ (⟨_, .binOp .rem _ _ (.const _) _, _, _, _, none⟩ :: _) _ _; refine O.val (Val.remL rfl rfl (by first | omega | assumption | decide | with_reducible exact nself | with_reducible exact rfl)) ?_)
        | (show O _ _ _ _ (⟨_, .binOp .shl _ (.const _) _ _, _, _, _, none⟩ :: _) _ _; refine O.val (Val.shlLl rfl rfl rfl) ?_)
        | (show O _ _ _ _ (⟨_, .move _, _, _, _, none⟩ :: _) _ _; first | refine O.val (Val.moveI rfl) ?_ | refine O.val (Val.moveB rfl) ?_ | refine O.val (Val.moveV (by (conv => lhs; whnf); try rfl)) ?_)
        | (show O _ _ _ _ (⟨_, .assign _, _, _, _, none⟩ :: _) _ _; first | refine O.val (Val.assignI rfl) ?_ | refine O.val (Val.assignB rfl) ?_)
        | (show O _ _ _ _ (⟨_, .binOp .lss _ _ _ _, _, _, _, none⟩ :: _) _ _; refine O.val (Val.lss rfl rfl) ?_)
        | (show O _ _ _ _ (⟨_, .binOp .leq _ _ _ _, _, _, _, none⟩ :: _) _ _; refine O.val (Val.leq rfl rfl) ?_)
        | (show O _ _ _ _ (⟨_, .binOp .eql _ _ _ _, _, _, _, none⟩ :: _) _ _; refine O.val (Val.eql rfl rfl) ?_)
        | (show O _ _ _ _ (⟨_, .binOp .neq _ _ _ _, _, _, _, none⟩ :: _) _ _; refine O.val (Val.neq rfl rfl) ?_)
        | (show O _ _ _ _ (⟨_, .binOp .add _ _ _ _, _, _, _, none⟩ :: _) _ _; refine O.val (Val.addN rfl rfl (by first | omega | assumption | decide | with_reducible exact nself | with_reducible exact rfl)) ?_)
        | (show O _ _ _ _ (⟨_, .binOp .sub _ _ _ _, _, _, _, none⟩ :: _) _ _; refine O.val (Val.subU rfl rfl (by first | assumption | decide | ((repeat (first | assumption | decide | exact Fits.modU rfl | refine Fits.and ?_ | refine Fits.or ?_ ?_ | refine Fits.xor ?_ ?_ | refine Fits.shr ?_ | exact Fits.u8 (by first | omega | assumption) | exact Fits.u32 (by first | omega | assumption) | exact Fits.u64 (by first | omega | assumption) | exact Fits.i64 (by first | omega | assumption))); first | done | fail)) (by first | omega | assumption | decide | with_reducible exact nself | with_reducible exact rfl)) ?_)
        | (show O _ _ _ _ (⟨_, .binOp .and _ _ _ _, _, _, _, none⟩ :: _) _ _; refine O.val (Val.maskI 8 256 rfl rfl (by exact rfl) (by decide) (by decide)) ?_)
        | (show O _ _ _ _ (⟨_, .unOp .not _ _, _, _, _, none⟩ :: _) _ _; refine O.val (Val.notB rfl) ?_)
        | (show O _ _ _ _ (⟨_, .extract _ _, _, _, _, none⟩ :: _) _ _; refine O.val (Val.extract rfl rfl) ?_)
        | (show O _ _ _ _ (⟨_, .pick _ _ _, _, _, _, none⟩ :: _) _ _; first | refine O.val (Val.pickT rfl rfl) ?_ | refine O.val (Val.pickF rfl rfl) ?_ | refine O.val (Val.pickDF rfl (by first | omega | assumption | decide | with_reducible exact nself | with_reducible exact rfl)) ?_ | refine O.val (Val.pickDT rfl (by first | omega | assumption | decide | with_reducible exact nself | with_reducible exact rfl)) ?_)
        | (show O _ _ _ _ (⟨_, .convert _ _ _, _, _, _, none⟩ :: _) _ _; refine O.val (Val.convN rfl (by first | assumption | decide | ((repeat (first | assumption | decide | exact Fits.modU rfl | refine Fits.and ?_ | refine Fits.or ?_ ?_ | refine Fits.xor ?_ ?_ | refine Fits.shr ?_ | exact Fits.u8 (by first | omega | assumption) | exact Fits.u32 (by first | omega | assumption) | exact Fits.u64 (by first | omega | assumption) | exact Fits.i64 (by first | omega | assumption))); first | done | fail))) ?_)
        | (show O _ _ _ _ (⟨_, _, _, _, _, some _⟩ :: _) _ _; first | refine O.gyes rfl rfl rfl ?_ | refine O.gF rfl rfl (by first | omega | assumption | with_reducible exact nself | with_reducible exact rfl) rfl ?_ | refine O.gT rfl rfl (by first | omega | assumption | with_reducible exact nself | with_reducible exact rfl) rfl ?_)
        | (show C _ _ (.cond _ _ _) _ _ _; first | refine C.ifT rfl (by first | omega | assumption | with_reducible exact nself | with_reducible exact rfl) ?_ | refine C.ifF rfl (by first | omega | assumption | with_reducible exact nself | with_reducible exact rfl) ?_)
        )
    exact ⟨rfl, H⟩
  · have hm := main v hv32 hvlt hsp
    by_cases hs2 : s < 285
    · have hrise := lenBase_rise ⟨s, hs2⟩ hs1.1
      simp only at hrise
      by_cases hs3 : s = 284
      · have hv3 : v ≠ 31 := fun h => hsp ⟨hs3, h⟩
        repeat' (first
            | with_reducible refine C.seq ?_
            | with_reducible refine C.region ?_
            | with_reducible refine J.thn ?_
            | with_reducible refine O.nil ?_
            | with_reducible refine C.skip ?_
            | with_reducible refine C.ret ?_
            | with_reducible refine J.bodyR ?_
            | (show O _ _ _ _ (⟨some 33, .binOp .add _ _ _ _, _, _, _, none⟩ :: _) _ _; refine O.val (Val.as (Val.addL rfl rfl (by omega)) es) ?_)
            | (show O _ _ _ _ (⟨some 62, .binOp .rem _ _ _ _, _, _, _, none⟩ :: _) _ _; refine O.val (Val.as (Val.remL rfl rfl (by decide)) ed) ?_)
            | (show O _ _ _ _ (⟨some 44, .binOp .and _ _ _ _, _, _, _, none⟩ :: _) _ _; refine O.val (Val.as (Val.andN rfl rfl hx hf1) ev_) ?_)
            | (show O _ _ _ _ (⟨some 73, .binOp .and _ _ _ _, _, _, _, none⟩ :: _) _ _; refine O.val (Val.as (Val.andN rfl rfl hx hf2) eu) ?_)
            | (show O _ _ _ _ (⟨some 36, .call { callee := .value (.func 33), args := _, argTypes := _ }, _, _, _, none⟩ :: _) _ _; refine O.call rfl (symLen_call (s := s) H hs1.1 hs1.2) ?_; rintro _ w ⟨rfl, H⟩)
            | (show O _ _ _ _ (⟨some 56, .call { callee := .value (.func 34), args := _, argTypes := _ }, _, _, _, none⟩ :: _) _ _; refine O.call rfl (lenSym_call (n := lenBase s + v) H hm.2.2 hm.2.1) ?_; rintro _ w ⟨rfl, H⟩; rw [hm.1, Nat.add_sub_cancel_left])
            | (show O _ _ _ _ (⟨some 65, .call { callee := .value (.func 35), args := _, argTypes := _ }, _, _, _, none⟩ :: _) _ _; refine O.call rfl (symDist_call (s := d) H hd1) ?_; rintro _ w ⟨rfl, H⟩)
            | (show O _ _ _ _ (⟨some 79, .call { callee := .value (.func 36), args := _, argTypes := _ }, _, _, _, none⟩ :: _) _ _; refine O.call rfl (distSym_call (n := distBase d + u) H (by omega) (by omega)) ?_; rintro _ w ⟨rfl, H⟩; rw [hsd, Nat.add_sub_cancel_left])
            | (show O _ _ _ _ (⟨some 124, .call { callee := .value (.func 33), args := _, argTypes := _ }, _, _, _, none⟩ :: _) _ _; refine O.call rfl (symLen_call (s := s + 1) H (by omega) (by omega)) ?_; rintro _ w ⟨rfl, H⟩)
            | (show O _ _ _ _ (⟨some 136, .call { callee := .value (.func 33), args := _, argTypes := _ }, _, _, _, none⟩ :: _) _ _; refine O.call rfl (symLen_no (z := 256) H (by decide) (by decide) (by decide)) ?_; rintro _ w ⟨rfl, H⟩)
            | (show O _ _ _ _ (⟨some 141, .call { callee := .value (.func 35), args := _, argTypes := _ }, _, _, _, none⟩ :: _) _ _; refine O.call rfl (symDist_no (z := 30) H (by decide)) ?_; rintro _ w ⟨rfl, H⟩)
            | (show O _ _ _ _ (⟨_, .call { callee := .value (.func 29), args := _, argTypes := _ }, _, _, _, none⟩ :: _) _ _; refine O.call rfl (awakeL_call H) ?_; rintro _ w ⟨rfl, H⟩)
            | (show O _ _ _ _ (⟨_, .binOp .add _ _ (.const _) _, _, _, _, none⟩ :: _) _ _; refine O.val (Val.addL rfl rfl (by first | omega | assumption | decide | with_reducible exact nself | with_reducible exact rfl)) ?_)
            | (show O _ _ _ _ (⟨_, .binOp .rem _ _ (.const _) _, _, _, _, none⟩ :: _) _ _; refine O.val (Val.remL rfl rfl (by first | omega | assumption | decide | with_reducible exact nself | with_reducible exact rfl)) ?_)
            | (show O _ _ _ _ (⟨_, .binOp .shl _ (.const _) _ _, _, _, _, none⟩ :: _) _ _; refine O.val (Val.shlLl rfl rfl rfl) ?_)
            | (show O _ _ _ _ (⟨_, .move _, _, _, _, none⟩ :: _) _ _; first | refine O.val (Val.moveI rfl) ?_ | refine O.val (Val.moveB rfl) ?_ | refine O.val (Val.moveV (by (conv => lhs; whnf); try rfl)) ?_)
            | (show O _ _ _ _ (⟨_, .assign _, _, _, _, none⟩ :: _) _ _; first | refine O.val (Val.assignI rfl) ?_ | refine O.val (Val.assignB rfl) ?_)
            | (show O _ _ _ _ (⟨_, .binOp .lss _ _ _ _, _, _, _, none⟩ :: _) _ _; refine O.val (Val.lss rfl rfl) ?_)
            | (show O _ _ _ _ (⟨_, .binOp .leq _ _ _ _, _, _, _, none⟩ :: _) _ _; refine O.val (Val.leq rfl rfl) ?_)
            | (show O _ _ _ _ (⟨_, .binOp .eql _ _ _ _, _, _, _, none⟩ :: _) _ _; refine O.val (Val.eql rfl rfl) ?_)
            | (show O _ _ _ _ (⟨_, .binOp .neq _ _ _ _, _, _, _, none⟩ :: _) _ _; refine O.val (Val.neq rfl rfl) ?_)
            | (show O _ _ _ _ (⟨_, .binOp .add _ _ _ _, _, _, _, none⟩ :: _) _ _; refine O.val (Val.addN rfl rfl (by first | omega | assumption | decide | with_reducible exact nself | with_reducible exact rfl)) ?_)
            | (show O _ _ _ _ (⟨_, .binOp .sub _ _ _ _, _, _, _, none⟩ :: _) _ _; refine O.val (Val.subU rfl rfl (by first | assumption | decide | ((repeat (first | assumption | decide | exact Fits.modU rfl | refine Fits.and ?_ | refine Fits.or ?_ ?_ | refine Fits.xor ?_ ?_ | refine Fits.shr ?_ | exact Fits.u8 (by first | omega | assumption) | exact Fits.u32 (by first | omega | assumption) | exact Fits.u64 (by first | omega | assumption) | exact Fits.i64 (by first | omega | assumption))); first | done | fail)) (by first | omega | assumption | decide | with_reducible exact nself | with_reducible exact rfl)) ?_)
            | (show O _ _ _ _ (⟨_, .binOp .and _ _ _ _, _, _, _, none⟩ :: _) _ _; refine O.val (Val.maskI 8 256 rfl rfl (by exact rfl) (by decide) (by decide)) ?_)
            | (show O _ _ _ _ (⟨_, .unOp .not _ _, _, _, _, none⟩ :: _) _ _; refine O.val (Val.notB rfl) ?_)
            | (show O _ _ _ _ (⟨_, .extract _ _, _, _, _, none⟩ :: _) _ _; refine O.val (Val.extract rfl rfl) ?_)
            | (show O _ _ _ _ (⟨_, .pick _ _ _, _, _, _, none⟩ :: _) _ _; first | refine O.val (Val.pickT rfl rfl) ?_ | refine O.val (Val.pickF rfl rfl) ?_ | refine O.val (Val.pickDF rfl (by first | omega | assumption | decide | with_reducible exact nself | with_reducible exact rfl)) ?_ | refine O.val (Val.pickDT rfl (by first | omega | assumption | decide | with_reducible exact nself | with_reducible exact rfl)) ?_)
            | (show O _ _ _ _ (⟨_, .convert _ _ _, _, _, _, none⟩ :: _) _ _; refine O.val (Val.convN rfl (by first | assumption | decide | ((repeat (first | assumption | decide | exact Fits.modU rfl | refine Fits.and ?_ | refine Fits.or ?_ ?_ | refine Fits.xor ?_ ?_ | refine Fits.shr ?_ | exact Fits.u8 (by first | omega | assumption) | exact Fits.u32 (by first | omega | assumption) | exact Fits.u64 (by first | omega | assumption) | exact Fits.i64 (by first | omega | assumption))); first | done | fail))) ?_)
            | (show O _ _ _ _ (⟨_, _, _, _, _, some _⟩ :: _) _ _; first | refine O.gyes rfl rfl rfl ?_ | refine O.gF rfl rfl (by first | omega | assumption | with_reducible exact nself | with_reducible exact rfl) rfl ?_ | refine O.gT rfl rfl (by first | omega | assumption | with_reducible exact nself | with_reducible exact rfl) rfl ?_)
            | (show C _ _ (.cond _ _ _) _ _ _; first | refine C.ifT rfl (by first | omega | assumption | with_reducible exact nself | with_reducible exact rfl) ?_ | refine C.ifF rfl (by first | omega | assumption | with_reducible exact nself | with_reducible exact rfl) ?_)
            )
        exact ⟨rfl, H⟩
      · repeat' (first
          | with_reducible refine C.seq ?_
          | with_reducible refine C.region ?_
          | with_reducible refine J.thn ?_
          | with_reducible refine O.nil ?_
          | with_reducible refine C.skip ?_
          | with_reducible refine C.ret ?_
          | with_reducible refine J.bodyR ?_
          | (show O _ _ _ _ (⟨some 33, .binOp .add _ _ _ _, _, _, _, none⟩ :: _) _ _; refine O.val (Val.as (Val.addL rfl rfl (by omega)) es) ?_)
          | (show O _ _ _ _ (⟨some 62, .binOp .rem _ _ _ _, _, _, _, none⟩ :: _) _ _; refine O.val (Val.as (Val.remL rfl rfl (by decide)) ed) ?_)
          | (show O _ _ _ _ (⟨some 44, .binOp .and _ _ _ _, _, _, _, none⟩ :: _) _ _; refine O.val (Val.as (Val.andN rfl rfl hx hf1) ev_) ?_)
          | (show O _ _ _ _ (⟨some 73, .binOp .and _ _ _ _, _, _, _, none⟩ :: _) _ _; refine O.val (Val.as (Val.andN rfl rfl hx hf2) eu) ?_)
          | (show O _ _ _ _ (⟨some 36, .call { callee := .value (.func 33), args := _, argTypes := _ }, _, _, _, none⟩ :: _) _ _; refine O.call rfl (symLen_call (s := s) H hs1.1 hs1.2) ?_; rintro _ w ⟨rfl, H⟩)
          | (show O _ _ _ _ (⟨some 56, .call { callee := .value (.func 34), args := _, argTypes := _ }, _, _, _, none⟩ :: _) _ _; refine O.call rfl (lenSym_call (n := lenBase s + v) H hm.2.2 hm.2.1) ?_; rintro _ w ⟨rfl, H⟩; rw [hm.1, Nat.add_sub_cancel_left])
          | (show O _ _ _ _ (⟨some 65, .call { callee := .value (.func 35), args := _, argTypes := _ }, _, _, _, none⟩ :: _) _ _; refine O.call rfl (symDist_call (s := d) H hd1) ?_; rintro _ w ⟨rfl, H⟩)
          | (show O _ _ _ _ (⟨some 79, .call { callee := .value (.func 36), args := _, argTypes := _ }, _, _, _, none⟩ :: _) _ _; refine O.call rfl (distSym_call (n := distBase d + u) H (by omega) (by omega)) ?_; rintro _ w ⟨rfl, H⟩; rw [hsd, Nat.add_sub_cancel_left])
          | (show O _ _ _ _ (⟨some 124, .call { callee := .value (.func 33), args := _, argTypes := _ }, _, _, _, none⟩ :: _) _ _; refine O.call rfl (symLen_call (s := s + 1) H (by omega) (by omega)) ?_; rintro _ w ⟨rfl, H⟩)
          | (show O _ _ _ _ (⟨some 136, .call { callee := .value (.func 33), args := _, argTypes := _ }, _, _, _, none⟩ :: _) _ _; refine O.call rfl (symLen_no (z := 256) H (by decide) (by decide) (by decide)) ?_; rintro _ w ⟨rfl, H⟩)
          | (show O _ _ _ _ (⟨some 141, .call { callee := .value (.func 35), args := _, argTypes := _ }, _, _, _, none⟩ :: _) _ _; refine O.call rfl (symDist_no (z := 30) H (by decide)) ?_; rintro _ w ⟨rfl, H⟩)
          | (show O _ _ _ _ (⟨_, .call { callee := .value (.func 29), args := _, argTypes := _ }, _, _, _, none⟩ :: _) _ _; refine O.call rfl (awakeL_call H) ?_; rintro _ w ⟨rfl, H⟩)
          | (show O _ _ _ _ (⟨_, .binOp .add _ _ (.const _) _, _, _, _, none⟩ :: _) _ _; refine O.val (Val.addL rfl rfl (by first | omega | assumption | decide | with_reducible exact nself | with_reducible exact rfl)) ?_)
          | (show O _ _ _ _ (⟨_, .binOp .rem _ _ (.const _) _, _, _, _, none⟩ :: _) _ _; refine O.val (Val.remL rfl rfl (by first | omega | assumption | decide | with_reducible exact nself | with_reducible exact rfl)) ?_)
          | (show O _ _ _ _ (⟨_, .binOp .shl _ (.const _) _ _, _, _, _, none⟩ :: _) _ _; refine O.val (Val.shlLl rfl rfl rfl) ?_)
          | (show O _ _ _ _ (⟨_, .move _, _, _, _, none⟩ :: _) _ _; first | refine O.val (Val.moveI rfl) ?_ | refine O.val (Val.moveB rfl) ?_ | refine O.val (Val.moveV (by (conv => lhs; whnf); try rfl)) ?_)
          | (show O _ _ _ _ (⟨_, .assign _, _, _, _, none⟩ :: _) _ _; first | refine O.val (Val.assignI rfl) ?_ | refine O.val (Val.assignB rfl) ?_)
          | (show O _ _ _ _ (⟨_, .binOp .lss _ _ _ _, _, _, _, none⟩ :: _) _ _; refine O.val (Val.lss rfl rfl) ?_)
          | (show O _ _ _ _ (⟨_, .binOp .leq _ _ _ _, _, _, _, none⟩ :: _) _ _; refine O.val (Val.leq rfl rfl) ?_)
          | (show O _ _ _ _ (⟨_, .binOp .eql _ _ _ _, _, _, _, none⟩ :: _) _ _; refine O.val (Val.eql rfl rfl) ?_)
          | (show O _ _ _ _ (⟨_, .binOp .neq _ _ _ _, _, _, _, none⟩ :: _) _ _; refine O.val (Val.neq rfl rfl) ?_)
          | (show O _ _ _ _ (⟨_, .binOp .add _ _ _ _, _, _, _, none⟩ :: _) _ _; refine O.val (Val.addN rfl rfl (by first | omega | assumption | decide | with_reducible exact nself | with_reducible exact rfl)) ?_)
          | (show O _ _ _ _ (⟨_, .binOp .sub _ _ _ _, _, _, _, none⟩ :: _) _ _; refine O.val (Val.subU rfl rfl (by first | assumption | decide | ((repeat (first | assumption | decide | exact Fits.modU rfl | refine Fits.and ?_ | refine Fits.or ?_ ?_ | refine Fits.xor ?_ ?_ | refine Fits.shr ?_ | exact Fits.u8 (by first | omega | assumption) | exact Fits.u32 (by first | omega | assumption) | exact Fits.u64 (by first | omega | assumption) | exact Fits.i64 (by first | omega | assumption))); first | done | fail)) (by first | omega | assumption | decide | with_reducible exact nself | with_reducible exact rfl)) ?_)
          | (show O _ _ _ _ (⟨_, .binOp .and _ _ _ _, _, _, _, none⟩ :: _) _ _; refine O.val (Val.maskI 8 256 rfl rfl (by exact rfl) (by decide) (by decide)) ?_)
          | (show O _ _ _ _ (⟨_, .unOp .not _ _, _, _, _, none⟩ :: _) _ _; refine O.val (Val.notB rfl) ?_)
          | (show O _ _ _ _ (⟨_, .extract _ _, _, _, _, none⟩ :: _) _ _; refine O.val (Val.extract rfl rfl) ?_)
          | (show O _ _ _ _ (⟨_, .pick _ _ _, _, _, _, none⟩ :: _) _ _; first | refine O.val (Val.pickT rfl rfl) ?_ | refine O.val (Val.pickF rfl rfl) ?_ | refine O.val (Val.pickDF rfl (by first | omega | assumption | decide | with_reducible exact nself | with_reducible exact rfl)) ?_)
          | (show O _ _ _ _ (⟨_, .convert _ _ _, _, _, _, none⟩ :: _) _ _; refine O.val (Val.convN rfl (by first | assumption | decide | ((repeat (first | assumption | decide | exact Fits.modU rfl | refine Fits.and ?_ | refine Fits.or ?_ ?_ | refine Fits.xor ?_ ?_ | refine Fits.shr ?_ | exact Fits.u8 (by first | omega | assumption) | exact Fits.u32 (by first | omega | assumption) | exact Fits.u64 (by first | omega | assumption) | exact Fits.i64 (by first | omega | assumption))); first | done | fail))) ?_)
          | (show O _ _ _ _ (⟨_, _, _, _, _, some _⟩ :: _) _ _; first | refine O.gyes rfl rfl rfl ?_ | refine O.gF rfl rfl (by first | omega | assumption | with_reducible exact nself | with_reducible exact rfl) rfl ?_ | refine O.sF rfl rfl (by first | omega | assumption | with_reducible exact nself | with_reducible exact rfl) rfl ?_)
          | (show C _ _ (.cond _ _ _) _ _ _; first | with_reducible refine C.condF rfl rfl ?_ | refine C.ifT rfl (by first | omega | assumption | with_reducible exact nself | with_reducible exact rfl) ?_ | refine C.ifF rfl (by first | omega | assumption | with_reducible exact nself | with_reducible exact rfl) ?_)
          )
        exact ⟨rfl, H⟩
    · have hs3 : s ≠ 284 := by omega
      repeat' (first
          | with_reducible refine C.seq ?_
          | with_reducible refine C.region ?_
          | with_reducible refine J.thn ?_
          | with_reducible refine O.nil ?_
          | with_reducible refine C.skip ?_
          | with_reducible refine C.ret ?_
          | with_reducible refine J.bodyR ?_
          | (show O _ _ _ _ (⟨some 33, .binOp .add _ _ _ _, _, _, _, none⟩ :: _) _ _; refine O.val (Val.as (Val.addL rfl rfl (by omega)) es) ?_)
          | (show O _ _ _ _ (⟨some 62, .binOp .rem _ _ _ _, _, _, _, none⟩ :: _) _ _; refine O.val (Val.as (Val.remL rfl rfl (by decide)) ed) ?_)
          | (show O _ _ _ _ (⟨some 44, .binOp .and _ _ _ _, _, _, _, none⟩ :: _) _ _; refine O.val (Val.as (Val.andN rfl rfl hx hf1) ev_) ?_)
          | (show O _ _ _ _ (⟨some 73, .binOp .and _ _ _ _, _, _, _, none⟩ :: _) _ _; refine O.val (Val.as (Val.andN rfl rfl hx hf2) eu) ?_)
          | (show O _ _ _ _ (⟨some 36, .call { callee := .value (.func 33), args := _, argTypes := _ }, _, _, _, none⟩ :: _) _ _; refine O.call rfl (symLen_call (s := s) H hs1.1 hs1.2) ?_; rintro _ w ⟨rfl, H⟩)
          | (show O _ _ _ _ (⟨some 56, .call { callee := .value (.func 34), args := _, argTypes := _ }, _, _, _, none⟩ :: _) _ _; refine O.call rfl (lenSym_call (n := lenBase s + v) H hm.2.2 hm.2.1) ?_; rintro _ w ⟨rfl, H⟩; rw [hm.1, Nat.add_sub_cancel_left])
          | (show O _ _ _ _ (⟨some 65, .call { callee := .value (.func 35), args := _, argTypes := _ }, _, _, _, none⟩ :: _) _ _; refine O.call rfl (symDist_call (s := d) H hd1) ?_; rintro _ w ⟨rfl, H⟩)
          | (show O _ _ _ _ (⟨some 79, .call { callee := .value (.func 36), args := _, argTypes := _ }, _, _, _, none⟩ :: _) _ _; refine O.call rfl (distSym_call (n := distBase d + u) H (by omega) (by omega)) ?_; rintro _ w ⟨rfl, H⟩; rw [hsd, Nat.add_sub_cancel_left])
          | (show O _ _ _ _ (⟨some 136, .call { callee := .value (.func 33), args := _, argTypes := _ }, _, _, _, none⟩ :: _) _ _; refine O.call rfl (symLen_no (z := 256) H (by decide) (by decide) (by decide)) ?_; rintro _ w ⟨rfl, H⟩)
          | (show O _ _ _ _ (⟨some 141, .call { callee := .value (.func 35), args := _, argTypes := _ }, _, _, _, none⟩ :: _) _ _; refine O.call rfl (symDist_no (z := 30) H (by decide)) ?_; rintro _ w ⟨rfl, H⟩)
          | (show O _ _ _ _ (⟨_, .call { callee := .value (.func 29), args := _, argTypes := _ }, _, _, _, none⟩ :: _) _ _; refine O.call rfl (awakeL_call H) ?_; rintro _ w ⟨rfl, H⟩)
          | (show O _ _ _ _ (⟨_, .binOp .rem _ _ (.const _) _, _, _, _, none⟩ :: _) _ _; refine O.val (Val.remL rfl rfl (by first | omega | assumption | decide | with_reducible exact nself | with_reducible exact rfl)) ?_)
          | (show O _ _ _ _ (⟨_, .binOp .shl _ (.const _) _ _, _, _, _, none⟩ :: _) _ _; refine O.val (Val.shlLl rfl rfl rfl) ?_)
          | (show O _ _ _ _ (⟨_, .move _, _, _, _, none⟩ :: _) _ _; first | refine O.val (Val.moveI rfl) ?_ | refine O.val (Val.moveB rfl) ?_ | refine O.val (Val.moveV (by (conv => lhs; whnf); try rfl)) ?_)
          | (show O _ _ _ _ (⟨_, .assign _, _, _, _, none⟩ :: _) _ _; first | refine O.val (Val.assignI rfl) ?_ | refine O.val (Val.assignB rfl) ?_)
          | (show O _ _ _ _ (⟨_, .binOp .lss _ _ _ _, _, _, _, none⟩ :: _) _ _; refine O.val (Val.lss rfl rfl) ?_)
          | (show O _ _ _ _ (⟨_, .binOp .eql _ _ _ _, _, _, _, none⟩ :: _) _ _; refine O.val (Val.eql rfl rfl) ?_)
          | (show O _ _ _ _ (⟨_, .binOp .neq _ _ _ _, _, _, _, none⟩ :: _) _ _; refine O.val (Val.neq rfl rfl) ?_)
          | (show O _ _ _ _ (⟨_, .binOp .add _ _ _ _, _, _, _, none⟩ :: _) _ _; refine O.val (Val.addN rfl rfl (by first | omega | assumption | decide | with_reducible exact nself | with_reducible exact rfl)) ?_)
          | (show O _ _ _ _ (⟨_, .binOp .sub _ _ _ _, _, _, _, none⟩ :: _) _ _; refine O.val (Val.subU rfl rfl (by first | assumption | decide | ((repeat (first | assumption | decide | exact Fits.modU rfl | refine Fits.and ?_ | refine Fits.or ?_ ?_ | refine Fits.xor ?_ ?_ | refine Fits.shr ?_ | exact Fits.u8 (by first | omega | assumption) | exact Fits.u32 (by first | omega | assumption) | exact Fits.u64 (by first | omega | assumption) | exact Fits.i64 (by first | omega | assumption))); first | done | fail)) (by first | omega | assumption | decide | with_reducible exact nself | with_reducible exact rfl)) ?_)
          | (show O _ _ _ _ (⟨_, .binOp .and _ _ _ _, _, _, _, none⟩ :: _) _ _; refine O.val (Val.maskI 8 256 rfl rfl (by exact rfl) (by decide) (by decide)) ?_)
          | (show O _ _ _ _ (⟨_, .unOp .not _ _, _, _, _, none⟩ :: _) _ _; refine O.val (Val.notB rfl) ?_)
          | (show O _ _ _ _ (⟨_, .extract _ _, _, _, _, none⟩ :: _) _ _; refine O.val (Val.extract rfl rfl) ?_)
          | (show O _ _ _ _ (⟨_, .pick _ _ _, _, _, _, none⟩ :: _) _ _; first | refine O.val (Val.pickT rfl rfl) ?_ | refine O.val (Val.pickF rfl rfl) ?_ | refine O.val (Val.pickDF rfl (by first | omega | assumption | decide | with_reducible exact nself | with_reducible exact rfl)) ?_)
          | (show O _ _ _ _ (⟨_, .convert _ _ _, _, _, _, none⟩ :: _) _ _; refine O.val (Val.convN rfl (by first | assumption | decide | ((repeat (first | assumption | decide | exact Fits.modU rfl | refine Fits.and ?_ | refine Fits.or ?_ ?_ | refine Fits.xor ?_ ?_ | refine Fits.shr ?_ | exact Fits.u8 (by first | omega | assumption) | exact Fits.u32 (by first | omega | assumption) | exact Fits.u64 (by first | omega | assumption) | exact Fits.i64 (by first | omega | assumption))); first | done | fail))) ?_)
          | (show O _ _ _ _ (⟨_, _, _, _, _, some _⟩ :: _) _ _; first | refine O.gyes rfl rfl rfl ?_ | refine O.gF rfl rfl (by first | omega | assumption | with_reducible exact nself | with_reducible exact rfl) rfl ?_ | refine O.sF rfl rfl (by first | omega | assumption | with_reducible exact nself | with_reducible exact rfl) rfl ?_)
          | (show C _ _ (.cond _ _ _) _ _ _; first | with_reducible refine C.condF rfl rfl ?_ | refine C.ifF rfl (by first | omega | assumption | with_reducible exact nself | with_reducible exact rfl) ?_)
          )
      exact ⟨rfl, H⟩
end Go.Proofs.Ytcibdcfdchpnpaa.X
