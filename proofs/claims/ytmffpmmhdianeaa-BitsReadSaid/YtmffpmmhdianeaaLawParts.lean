/- The law BitsParts, walked. Nothing is assumed. -/
import Derived.Test.YtmffpmmhdianeaaLawBack
namespace Go.Proofs.Ytmffpmmhdianeaa.X
open Go Go.RowKit
set_option linter.unusedSimpArgs false
set_option linter.unusedVariables false
theorem num_inj : ∀ {a b : List Nat}, Bytes a → Bytes b → a.length = b.length → X.num a = X.num b → a = b
  | [], [], _, _, _, _ => rfl
  | [], _ :: _, _, _, h, _ => by simp at h
  | _ :: _, [], _, _, h, _ => by simp at h
  | x :: a, y :: b, ha, hb, hl, hn => by
    have h1 := ha x List.mem_cons_self
    have h2 := hb y List.mem_cons_self
    have hn' : x + 256 * X.num a = y + 256 * X.num b := hn
    have hx : x = y := by omega
    have := num_inj (fun z hz => ha z (List.mem_cons_of_mem _ hz)) (fun z hz => hb z (List.mem_cons_of_mem _ hz)) (by simpa using hl) (by omega)
    rw [hx, this]
theorem Bits.inj {W V : List Nat} {N n : Nat} (h : Bits W N n) (h' : Bits V N n) : W = V :=
  num_inj h.bytes h'.bytes (by rw [h.len, h'.len]) (by rw [h.num, h'.num])
theorem low_split (v : Nat) {k n : Nat} (h : k ≤ n) : v % 2 ^ n = v % 2 ^ k + ((v >>> k) % 2 ^ (n - k)) * 2 ^ k := by
  have e : n = k + (n - k) := by omega
  conv => lhs; rw [e, Nat.pow_add]
  rw [Nat.mod_mul, Nat.shiftRight_eq_div_pow, Nat.mul_comm (2 ^ k)]
theorem cut_low (v h n k : Nat) (hk : k ≤ n) : cutN (v % 2 ^ n * 2 ^ h) h k = v % 2 ^ k := by
  unfold cutN
  rw [Nat.shiftRight_eq_div_pow, Nat.mul_div_cancel _ (Nat.pow_pos (by decide))]
  exact Nat.mod_mod_of_dvd _ (Nat.pow_dvd_pow 2 hk)
theorem cut_high (v h n k : Nat) (hk : k ≤ n) : cutN (v % 2 ^ n * 2 ^ h) (h + k) (n - k) = (v >>> k) % 2 ^ (n - k) := by
  unfold cutN
  rw [Nat.shiftRight_eq_div_pow, Nat.pow_add, ← Nat.div_div_eq_div_mul, Nat.mul_div_cancel _ (Nat.pow_pos (by decide)), ← Nat.shiftRight_eq_div_pow]
  apply Nat.eq_of_testBit_eq
  intro i
  rw [Nat.testBit_mod_two_pow, Nat.testBit_mod_two_pow, Nat.testBit_shiftRight, Nat.testBit_shiftRight, Nat.testBit_mod_two_pow]
  by_cases hi : i < n - k
  · have : k + i < n := by omega
    simp [hi, this]
  · simp [hi]
theorem Bits.len8 {W : List Nat} {N n : Nat} (h : Bits W N n) : n ≤ 8 * W.length := by have := h.len; omega
theorem Bits.short {W : List Nat} {N n : Nat} (h : Bits W N n) (hn : n ≤ 1000000) : W.length ≤ 1000000 := by have := h.len; omega
set_option maxHeartbeats 2000000 in
set_option maxRecDepth 100000 in
theorem partsLaw_call {w0 w : World} {v : Nat} {zn za zh : Int} (H : Own w0 w []) (hv : Fits .u32 v) :
    Call Try.prog 11 #[.int .u32 v, .int .i64 zn, .int .i64 za, .int .i64 zh] w fun r w' => r = .bool true ∧ Own w0 w' [] := by
  refine Call.of (n := 129) (rs := [8]) Try.func11 rfl rfl rfl (by decide) (Nat.le_of_ble_eq_true rfl) ?_
  obtain ⟨n, hn⟩ : ∃ n, n = lowM zn 256 % 33 := ⟨_, rfl⟩
  obtain ⟨k, hk⟩ : ∃ k, k = lowM za 256 % (n + 1) := ⟨_, rfl⟩
  obtain ⟨h, hh⟩ : ∃ h, h = lowM zh 8 := ⟨_, rfl⟩
  have hn32 : n ≤ 32 := by omega
  have hkn : k ≤ n := by have := Nat.mod_lt (lowM za 256) (show 0 < n + 1 by omega); omega
  have hh7 : h ≤ 7 := by have := lowM_lt zh (show 0 < 8 by decide); omega
  have en : Value.int .i64 ((lowM zn 256 % 33 : Nat) : Int) = .int .i64 (n : Int) := by rw [hn]
  have ek : Value.int .i64 ((lowM za 256 % (n + 1) : Nat) : Int) = .int .i64 (k : Int) := by rw [hk]
  have eh : Value.int .i64 ((lowM zh 8 : Nat) : Int) = .int .i64 (h : Int) := by rw [hh]
  have hv64 : Fits .u64 v := Nat.lt_of_lt_of_le hv (by decide)
  have hx : Fits .u32 (v >>> k) := hv.shr
  have hN : v % 2 ^ k * 2 ^ h + v >>> k % 2 ^ (n - k) * 2 ^ (h + k) = v % 2 ^ n * 2 ^ h := by
    rw [low_split v hkn, Nat.add_mul, Nat.pow_add, Nat.mul_comm (2 ^ h) (2 ^ k), Nat.mul_assoc]
  have hp := cut_low v h n k hkn
  have hq := cut_high v h n k hkn
  have h1n := ones_pos hn32
  have hf2 := ones_fits n
  have hpf : Fits .u32 (v % 2 ^ k) := Nat.lt_of_le_of_lt (Nat.mod_le _ _) hv
  have hqf : Fits .u32 (v >>> k % 2 ^ (n - k)) := Nat.lt_of_le_of_lt (Nat.mod_le _ _) hx
  have hpf64 : Fits .u64 (v % 2 ^ k) := Nat.lt_of_lt_of_le hpf (by decide)
  have hqf64 : Fits .u64 (v >>> k % 2 ^ (n - k)) := Nat.lt_of_lt_of_le hqf (by decide)
  have hlt := Nat.mod_lt v (Nat.pow_pos (n := k) (show 0 < 2 by decide))
  have hlt2 := Nat.mod_lt (v >>> k) (Nat.pow_pos (n := n - k) (show 0 < 2 by decide))
  have hsh : (v >>> k % 2 ^ (n - k)) <<< k < 2 ^ IntKind.u64.bits := by
    rw [Nat.shiftLeft_eq]
    calc v >>> k % 2 ^ (n - k) * 2 ^ k < 2 ^ (n - k) * 2 ^ k := Nat.mul_lt_mul_of_pos_right hlt2 (Nat.pow_pos (by decide))
      _ = 2 ^ n := by rw [← Nat.pow_add]; congr 1; omega
      _ ≤ 2 ^ 32 := Nat.pow_le_pow_right (by decide) hn32
      _ ≤ _ := by decide
  have hmask2 : v &&& ((1 <<< n) % 2 ^ IntKind.u64.bits - 1) = v % 2 ^ n := by
    rw [← mask_num v hn32, Nat.mod_eq_of_lt (show _ < 2 ^ IntKind.u32.bits from Fits.and hv)]
  have hor : v % 2 ^ k ||| (v >>> k % 2 ^ (n - k)) <<< k % 2 ^ IntKind.u64.bits = v % 2 ^ n := by
    rw [Nat.mod_eq_of_lt hsh, or_shl hlt, ← low_split v hkn]
  have heq : ((v % 2 ^ k ||| (v >>> k % 2 ^ (n - k)) <<< k % 2 ^ IntKind.u64.bits : Nat) : Int) = ((v &&& ((1 <<< n) % 2 ^ IntKind.u64.bits - 1) : Nat) : Int) := by rw [hmask2, hor]
  have hor64 : Fits .u64 ((v >>> k % 2 ^ (n - k)) <<< k % 2 ^ IntKind.u64.bits) := Fits.modU rfl
  repeat' (first
      | with_reducible refine C.seq ?_
      | with_reducible refine C.region ?_
      | with_reducible refine J.thn ?_
      | with_reducible refine O.nil ?_
      | with_reducible refine C.skip ?_
      | with_reducible refine C.ret ?_
      | with_reducible refine J.bodyR ?_
      | (show C _ _ (.region 9 _ true) _ _ _; refine C.drawnAll [] (.take 0 (.take 1 (.take 2 (.solo 3 (.take 4 (.take 5 (.take 6 (.take 7 (.take 8 (.solo 9 (.take 10 (.take 11 (.take 12 (.take 13 (.take 14 (.take 15 (.take 16 (.take 17 (.solo 18 (.take 19 (.take 20 (.take 21 (.take 22 (.take 25 (.solo 23 (.two 24 26 (.solo 26 (.solo 27 (.take 28 (.take 29 (.take 30 (.take 31 (.take 33 (.solo 32 (.solo 34 (.take 35 (.take 36 .done))))))))))) (.two 24 27 (.solo 27 (.take 28 (.take 29 (.take 30 (.take 31 (.take 33 (.solo 32 (.solo 34 (.take 35 (.take 36 .done)))))))))) (.solo 24 (.take 28 (.take 29 (.take 30 (.take 31 (.take 33 (.solo 32 (.solo 34 (.take 35 (.take 36 .done))))))))))))))))))))))))))))))))))))) (by kernel_rfl) (by (repeat (first | with_reducible exact NoPan.body | with_reducible exact NoPan.endS | with_reducible refine NoPan.thn ?_ | with_reducible refine NoPan.blk ?_)); first | done | fail) H ?_; intro w H hS)
      | (show C _ _ (.region 17 _ true) _ _ _; refine C.drawnAll [6, 8, 13] (.take 0 (.take 1 (.take 2 (.take 3 (.take 4 (.take 5 (.takeS 6 (.take 7 (.takeS 8 (.take 9 (.take 10 (.take 11 (.take 12 (.takeS 13 (.take 14 (.take 15 (.take 16 (.take 17 (.take 18 (.take 19 (.take 20 (.solo 21 (.take 22 (.take 23 .done)))))))))))))))))))))))) (by kernel_rfl) (by (repeat (first | with_reducible exact NoPan.body | with_reducible exact NoPan.endS | with_reducible refine NoPan.thn ?_ | with_reducible refine NoPan.blk ?_)); first | done | fail) H ?_; intro w H hS)
      | (show O _ _ _ _ (⟨_, .binOp .rem _ _ (.const _) _, _, _, _, none⟩ :: _) _ _; refine O.val (Val.as (Val.remL rfl rfl (by decide)) en) ?_)
      | (show O _ _ _ _ (⟨_, .binOp .rem _ _ (.tmp _) _, _, _, _, none⟩ :: _) _ _; refine O.val (Val.as (Val.remN rfl rfl (by omega)) ek) ?_)
      | (show O _ _ _ _ (⟨_, .binOp .and _ _ (.const (.int .i64 7)) _, _, _, _, none⟩ :: _) _ _; refine O.val (Val.as (Val.maskI 3 8 rfl rfl (by exact rfl) (by decide) (by decide)) eh) ?_)
      | (show O _ _ _ _ (⟨some 25, .call { callee := .value (.func 29), args := _, argTypes := _ }, _, _, _, none⟩ :: _) _ _; refine O.call rfl (newWriter_call H) ?_; rintro _ w ⟨p, rfl, H⟩)
      | (show O _ _ _ _ (⟨some 26, .call { callee := .value (.func 29), args := _, argTypes := _ }, _, _, _, none⟩ :: _) _ _; refine O.call rfl (newWriter_call H) ?_; rintro _ w ⟨q, rfl, H⟩)
      | (show O _ _ _ _ (⟨some 36, .call { callee := .value (.func 30), args := _, argTypes := _ }, _, _, _, none⟩ :: _) _ _; refine O.call rfl (put_yes (p := p) (n := 0) (x := 0) (k := h) (H.picks (by (repeat (first | exact Picks.refl | (apply Picks.cons; focus ((repeat (first | exact Pull.here | apply Pull.there)); done)) | apply Picks.drop)); first | done | fail)) Bits.nil (by decide) (by omega) (by decide)) ?_; rintro _ w ⟨rfl, av, A, hA, H⟩; simp only [Nat.zero_mod, Nat.zero_mul, Nat.add_zero, Nat.zero_add] at hA H)
      | (show O _ _ _ _ (⟨some 40, .call { callee := .value (.func 30), args := _, argTypes := _ }, _, _, _, none⟩ :: _) _ _; refine O.call rfl (put_yes (p := q) (n := 0) (x := 0) (k := h) (H.picks (by (repeat (first | exact Picks.refl | (apply Picks.cons; focus ((repeat (first | exact Pull.here | apply Pull.there)); done)) | apply Picks.drop)); first | done | fail)) Bits.nil (by decide) (by omega) (by decide)) ?_; rintro _ w ⟨rfl, bv, B, hB, H⟩; simp only [Nat.zero_mod, Nat.zero_mul, Nat.add_zero, Nat.zero_add] at hB H)
      | (show O _ _ _ _ (⟨some 84, .call { callee := .value (.func 31), args := _, argTypes := _ }, _, _, _, none⟩ :: _) _ _; refine O.call rfl (wrBytes_call (p := p) (H.picks (by (repeat (first | exact Picks.refl | (apply Picks.cons; focus ((repeat (first | exact Pull.here | apply Pull.there)); done)) | apply Picks.drop)); first | done | fail)) hAl) ?_; rintro u3 w H)
      | (show O _ _ _ _ (⟨_, .call { callee := .value (.func 25), args := _, argTypes := _ }, _, _, _, none⟩ :: _) _ _; refine O.call rfl (newReader_call H (Rd.row1 (by (repeat (first | exact List.mem_cons_self | refine List.mem_cons_of_mem _ ?_)); first | done | fail)) hAl) ?_; rintro _ w ⟨r, rv, rfl, H⟩)
      | (show O _ _ _ _ (⟨some 91, .call { callee := .value (.func 26), args := _, argTypes := _ }, _, _, _, none⟩ :: _) _ _; refine O.call rfl (take_yes (p := r) (m := 0) (n := h) (H.picks (by (repeat (first | exact Picks.refl | (apply Picks.cons; focus ((repeat (first | exact Pull.here | apply Pull.there)); done)) | apply Picks.drop)); first | done | fail)) hA.bytes hAl (by omega) (by omega)) ?_; rintro _ w ⟨rfl, H⟩; simp only [Nat.zero_add] at H)
      | (show O _ _ _ _ (⟨some 95, .call { callee := .value (.func 26), args := _, argTypes := _ }, _, _, _, none⟩ :: _) _ _; refine O.call rfl (take_yes (p := r) (m := h) (n := k) (H.picks (by (repeat (first | exact Picks.refl | (apply Picks.cons; focus ((repeat (first | exact Pull.here | apply Pull.there)); done)) | apply Picks.drop)); first | done | fail)) hA.bytes hAl (by omega) (by omega)) ?_; rintro _ w ⟨rfl, H⟩; rw [hA.num, hp])
      | (show O _ _ _ _ (⟨some 103, .call { callee := .value (.func 26), args := _, argTypes := _ }, _, _, _, none⟩ :: _) _ _; refine O.call rfl (take_yes (p := r) (m := h + k) (n := n - k) (H.picks (by (repeat (first | exact Picks.refl | (apply Picks.cons; focus ((repeat (first | exact Pull.here | apply Pull.there)); done)) | apply Picks.drop)); first | done | fail)) hA.bytes hAl (by omega) (by omega)) ?_; rintro _ w ⟨rfl, H⟩; rw [hA.num, hq])
      | (show O _ _ _ _ (⟨_, .binOp .add _ _ (.const _) _, _, _, _, none⟩ :: _) _ _; refine O.val (Val.addL rfl rfl (by first | omega | assumption | decide | with_reducible exact nself | with_reducible exact rfl)) ?_)
      | (show O _ _ _ _ (⟨_, .move _, _, _, _, none⟩ :: _) _ _; first | refine O.val (Val.moveI rfl) ?_ | refine O.val (Val.moveB rfl) ?_ | refine O.val (Val.moveP rfl) ?_ | refine O.val (Val.moveV (by (conv => lhs; whnf); try rfl)) ?_)
      | (show O _ _ _ _ (⟨_, .assign _, _, _, _, none⟩ :: _) _ _; first | refine O.val (Val.assignI rfl) ?_ | refine O.val (Val.assignB rfl) ?_ | refine O.val (Val.assignP rfl) ?_)
      | (show O _ _ _ _ (⟨_, .binOp .eql _ _ _ _, _, _, _, none⟩ :: _) _ _; refine O.val (Val.eqlNilP rfl rfl) ?_)
      | (show O _ _ _ _ (⟨_, .binOp .sub _ _ _ _, _, _, _, none⟩ :: _) _ _; refine O.val (Val.subN rfl rfl (by first | omega | assumption | decide | with_reducible exact nself | with_reducible exact rfl)) ?_)
      | (show O _ _ _ _ (⟨_, .binOp .and _ _ _ _, _, _, _, none⟩ :: _) _ _; refine O.val (Val.maskI 8 256 rfl rfl (by exact rfl) (by decide) (by decide)) ?_)
      | (show O _ _ _ _ (⟨_, .binOp .shr _ _ _ _, _, _, _, none⟩ :: _) _ _; refine O.val (Val.shrF rfl rfl (by first | assumption | decide | ((repeat (first | assumption | decide | exact Fits.modU rfl | refine Fits.and ?_ | refine Fits.or ?_ ?_ | refine Fits.xor ?_ ?_ | refine Fits.shr ?_ | exact Fits.u8 (by first | omega | assumption) | exact Fits.u32 (by first | omega | assumption) | exact Fits.u64 (by first | omega | assumption) | exact Fits.i64 (by first | omega | assumption))); first | done | fail))) ?_)
      | (show O _ _ _ _ (⟨_, .extract _ _, _, _, _, none⟩ :: _) _ _; refine O.val (Val.extract rfl rfl) ?_)
      | (show O _ _ _ _ (⟨_, .pick _ _ _, _, _, _, none⟩ :: _) _ _; refine O.val (Val.pickF rfl rfl) ?_)
      | (show O _ _ _ _ (⟨_, .convert _ _ _, _, _, _, none⟩ :: _) _ _; refine O.val (Val.convN rfl (by first | assumption | decide | ((repeat (first | assumption | decide | exact Fits.modU rfl | refine Fits.and ?_ | refine Fits.or ?_ ?_ | refine Fits.xor ?_ ?_ | refine Fits.shr ?_ | exact Fits.u8 (by first | omega | assumption) | exact Fits.u32 (by first | omega | assumption) | exact Fits.u64 (by first | omega | assumption) | exact Fits.i64 (by first | omega | assumption))); first | done | fail))) ?_)
      | (show O _ _ _ _ (⟨_, _, _, _, _, some _⟩ :: _) _ _; refine O.gyes rfl rfl rfl ?_)
      | (show C _ _ (.cond _ _ _) _ _ _; first | with_reducible refine C.condF rfl rfl ?_ | refine C.ifF rfl (by first | omega | assumption | with_reducible exact nself | with_reducible exact rfl) ?_)
      | with_reducible refine D.done ?_
      | refine D.take rfl ?_
      | refine D.takeS rfl ?_
      | refine D.solo rfl rfl ?_
      | refine D.two rfl rfl rfl rfl ?_ ?_
      | (show DW _ _ _ _ _ _ ⟨some 49, .call { callee := .value (.func 30), args := _, argTypes := _ }, _, _, _, none⟩ _ _ _ _; refine DW.call rfl (put_yes (p := p) (k := n) (H.picks (by (repeat (first | exact Picks.refl | (apply Picks.cons; focus ((repeat (first | exact Pull.here | apply Pull.there)); done)) | apply Picks.drop)); first | done | fail)) hA (by omega) hn32 hv) ?_; rintro _ w ⟨rfl, av, A, hA, H⟩; simp only [Nat.zero_add] at hA; refine ⟨by first | exact (fun _ _ => H.has.mono (by (repeat (first | exact Sub.refl | exact Sub.nil | refine Sub.mem (by (repeat (first | exact List.mem_cons_self | refine List.mem_cons_of_mem _ ?_)); first | done | fail) ?_ | refine Sub.cons ?_)); first | done | fail)) | exact (fun hk => absurd hk (by decide +kernel)), ?_⟩)
      | (show DW _ _ _ _ _ _ ⟨some 55, .call { callee := .value (.func 30), args := _, argTypes := _ }, _, _, _, none⟩ _ _ _ _; refine DW.call rfl (put_yes (p := q) (k := k) (H.picks (by (repeat (first | exact Picks.refl | (apply Picks.cons; focus ((repeat (first | exact Pull.here | apply Pull.there)); done)) | apply Picks.drop)); first | done | fail)) hB (by omega) (by omega) hv) ?_; rintro _ w ⟨rfl, bv, B, hB, H⟩; simp only [Nat.zero_add] at hB; refine ⟨by first | exact (fun _ _ => H.has.mono (by (repeat (first | exact Sub.refl | exact Sub.nil | refine Sub.mem (by (repeat (first | exact List.mem_cons_self | refine List.mem_cons_of_mem _ ?_)); first | done | fail) ?_ | refine Sub.cons ?_)); first | done | fail)) | exact (fun hk => absurd hk (by decide +kernel)), ?_⟩)
      | (show DW _ _ _ _ _ _ ⟨some 64, .call { callee := .value (.func 30), args := _, argTypes := _ }, _, _, _, none⟩ _ _ _ _; refine DW.call rfl (put_yes (p := q) (k := n - k) (H.picks (by (repeat (first | exact Picks.refl | (apply Picks.cons; focus ((repeat (first | exact Pull.here | apply Pull.there)); done)) | apply Picks.drop)); first | done | fail)) hB (by omega) (by omega) hx) ?_; rintro _ w ⟨rfl, bv, B, hB, H⟩; rw [hN, show h + k + (n - k) = h + n from by omega] at hB; rw [show h + k + (n - k) = h + n from by omega] at H; have hAB : B = A := hB.inj hA; rw [hAB] at hB H; have hAl := hA.short (by omega); have hA8 := hA.len8; refine ⟨by first | exact (fun _ _ => H.has.mono (by (repeat (first | exact Sub.refl | exact Sub.nil | refine Sub.mem (by (repeat (first | exact List.mem_cons_self | refine List.mem_cons_of_mem _ ?_)); first | done | fail) ?_ | refine Sub.cons ?_)); first | done | fail)) | exact (fun hk => absurd hk (by decide +kernel)), ?_⟩)
      | (show DW _ _ _ _ _ _ ⟨some 69, .call { callee := .value (.func 31), args := _, argTypes := _ }, _, _, _, none⟩ _ _ _ _; refine DW.call rfl (wrBytes_call (p := p) (H.picks (by (repeat (first | exact Picks.refl | (apply Picks.cons; focus ((repeat (first | exact Pull.here | apply Pull.there)); done)) | apply Picks.drop)); first | done | fail)) hAl) ?_; rintro u1 w H; refine ⟨by first | exact (fun _ _ => H.has.mono (by (repeat (first | exact Sub.refl | exact Sub.nil | refine Sub.mem (by (repeat (first | exact List.mem_cons_self | refine List.mem_cons_of_mem _ ?_)); first | done | fail) ?_ | refine Sub.cons ?_)); first | done | fail)) | exact (fun hk => absurd hk (by decide +kernel)), ?_⟩)
      | (show DW _ _ _ _ _ _ ⟨some 72, .call { callee := .value (.func 31), args := _, argTypes := _ }, _, _, _, none⟩ _ _ _ _; refine DW.call rfl (wrBytes_call (p := q) (H.picks (by (repeat (first | exact Picks.refl | (apply Picks.cons; focus ((repeat (first | exact Pull.here | apply Pull.there)); done)) | apply Picks.drop)); first | done | fail)) hAl) ?_; rintro u2 w H; refine ⟨by first | exact (fun _ _ => H.has.mono (by (repeat (first | exact Sub.refl | exact Sub.nil | refine Sub.mem (by (repeat (first | exact List.mem_cons_self | refine List.mem_cons_of_mem _ ?_)); first | done | fail) ?_ | refine Sub.cons ?_)); first | done | fail)) | exact (fun hk => absurd hk (by decide +kernel)), ?_⟩)
      | (show DW _ _ _ _ _ _ ⟨some 78, .call { callee := .value (.func 33), args := _, argTypes := _ }, _, _, _, none⟩ _ _ _ _; refine DW.call rfl (wrLen_call (p := p) (H.picks (by (repeat (first | exact Picks.refl | (apply Picks.cons; focus ((repeat (first | exact Pull.here | apply Pull.there)); done)) | apply Picks.drop)); first | done | fail))) ?_; rintro _ w ⟨rfl, H⟩; refine ⟨by first | exact (fun _ _ => H.has.mono (by (repeat (first | exact Sub.refl | exact Sub.nil | refine Sub.mem (by (repeat (first | exact List.mem_cons_self | refine List.mem_cons_of_mem _ ?_)); first | done | fail) ?_ | refine Sub.cons ?_)); first | done | fail)) | exact (fun hk => absurd hk (by decide +kernel)), ?_⟩)
      | (show DW _ _ _ _ _ _ ⟨some 80, .call { callee := .value (.func 33), args := _, argTypes := _ }, _, _, _, none⟩ _ _ _ _; refine DW.call rfl (wrLen_call (p := q) (H.picks (by (repeat (first | exact Picks.refl | (apply Picks.cons; focus ((repeat (first | exact Pull.here | apply Pull.there)); done)) | apply Picks.drop)); first | done | fail))) ?_; rintro _ w ⟨rfl, H⟩; refine ⟨by first | exact (fun _ _ => H.has.mono (by (repeat (first | exact Sub.refl | exact Sub.nil | refine Sub.mem (by (repeat (first | exact List.mem_cons_self | refine List.mem_cons_of_mem _ ?_)); first | done | fail) ?_ | refine Sub.cons ?_)); first | done | fail)) | exact (fun hk => absurd hk (by decide +kernel)), ?_⟩)
      | (show DW _ _ _ _ _ _ ⟨_, .call { callee := .value (.func 24), args := _, argTypes := _ }, _, _, _, none⟩ _ _ _ _; refine DW.call rfl (awakeB_call H) ?_; rintro _ w ⟨rfl, H⟩; refine ⟨by first | exact (fun _ _ => H.has.mono (by (repeat (first | exact Sub.refl | exact Sub.nil | refine Sub.mem (by (repeat (first | exact List.mem_cons_self | refine List.mem_cons_of_mem _ ?_)); first | done | fail) ?_ | refine Sub.cons ?_)); first | done | fail)) | exact (fun hk => absurd hk (by decide +kernel)), ?_⟩)
      | (show DT _ _ _ _ _ _ ⟨_, .binOp .shl _ (.const _) _ _, _, _, _, none⟩ _ _ _; refine DT.val (fun _ => Val.shlLl rfl rfl rfl) ?_)
      | (show DT _ _ _ _ _ _ ⟨_, .move _, _, _, _, none⟩ _ _ _; first | refine DT.val (fun _ => Val.moveI rfl) ?_ | refine DT.val (fun _ => Val.moveB rfl) ?_ | refine DT.val (fun _ => Val.moveP rfl) ?_)
      | (show DT _ _ _ _ _ _ ⟨_, .assign _, _, _, _, none⟩ _ _ _; refine DT.val (fun _ => Val.assignB rfl) ?_)
      | (show DT _ _ _ _ _ _ ⟨_, .binOp .eql _ _ _ _, _, _, _, none⟩ _ _ _; refine DT.val (fun _ => Val.eql rfl rfl) ?_)
      | (show DT _ _ _ _ _ _ ⟨_, .binOp .neq _ _ _ _, _, _, _, none⟩ _ _ _; first | refine DT.val (fun _ => Val.neq rfl rfl) ?_ | refine DT.val (fun _ => Val.neqS rfl rfl) ?_)
      | (show DT _ _ _ _ _ _ ⟨_, .binOp .sub _ _ _ _, _, _, _, none⟩ _ _ _; first | refine DT.val (fun _ => Val.subN rfl rfl (by first | omega | assumption | decide | with_reducible exact nself | with_reducible exact rfl)) ?_ | refine DT.val (fun _ => Val.subU rfl rfl (by first | assumption | decide | ((repeat (first | assumption | decide | exact Fits.modU rfl | refine Fits.and ?_ | refine Fits.or ?_ ?_ | refine Fits.xor ?_ ?_ | refine Fits.shr ?_ | exact Fits.u8 (by first | omega | assumption) | exact Fits.u32 (by first | omega | assumption) | exact Fits.u64 (by first | omega | assumption) | exact Fits.i64 (by first | omega | assumption))); first | done | fail)) (by first | omega | assumption | decide | with_reducible exact nself | with_reducible exact rfl)) ?_)
      | (show DT _ _ _ _ _ _ ⟨_, .binOp .and _ _ _ _, _, _, _, none⟩ _ _ _; refine DT.val (fun _ => Val.andN rfl rfl (by first | assumption | decide | ((repeat (first | assumption | decide | exact Fits.modU rfl | refine Fits.and ?_ | refine Fits.or ?_ ?_ | refine Fits.xor ?_ ?_ | refine Fits.shr ?_ | exact Fits.u8 (by first | omega | assumption) | exact Fits.u32 (by first | omega | assumption) | exact Fits.u64 (by first | omega | assumption) | exact Fits.i64 (by first | omega | assumption))); first | done | fail)) (by first | assumption | decide | ((repeat (first | assumption | decide | exact Fits.modU rfl | refine Fits.and ?_ | refine Fits.or ?_ ?_ | refine Fits.xor ?_ ?_ | refine Fits.shr ?_ | exact Fits.u8 (by first | omega | assumption) | exact Fits.u32 (by first | omega | assumption) | exact Fits.u64 (by first | omega | assumption) | exact Fits.i64 (by first | omega | assumption))); first | done | fail))) ?_)
      | (show DT _ _ _ _ _ _ ⟨_, .binOp .or _ _ _ _, _, _, _, none⟩ _ _ _; refine DT.val (fun _ => Val.orN rfl rfl (by first | assumption | decide | ((repeat (first | assumption | decide | exact Fits.modU rfl | refine Fits.and ?_ | refine Fits.or ?_ ?_ | refine Fits.xor ?_ ?_ | refine Fits.shr ?_ | exact Fits.u8 (by first | omega | assumption) | exact Fits.u32 (by first | omega | assumption) | exact Fits.u64 (by first | omega | assumption) | exact Fits.i64 (by first | omega | assumption))); first | done | fail)) (by first | assumption | decide | ((repeat (first | assumption | decide | exact Fits.modU rfl | refine Fits.and ?_ | refine Fits.or ?_ ?_ | refine Fits.xor ?_ ?_ | refine Fits.shr ?_ | exact Fits.u8 (by first | omega | assumption) | exact Fits.u32 (by first | omega | assumption) | exact Fits.u64 (by first | omega | assumption) | exact Fits.i64 (by first | omega | assumption))); first | done | fail))) ?_)
      | (show DT _ _ _ _ _ _ ⟨_, .binOp .shl _ _ _ _, _, _, _, none⟩ _ _ _; refine DT.val (fun _ => Val.shlU rfl rfl rfl) ?_)
      | (show DT _ _ _ _ _ _ ⟨_, .unOp .not _ _, _, _, _, none⟩ _ _ _; refine DT.val (fun _ => Val.notB rfl) ?_)
      | (show DT _ _ _ _ _ _ ⟨_, .pick _ _ _, _, _, _, none⟩ _ _ _; first | refine DT.val (fun _ => Val.pickT rfl rfl) ?_ | refine DT.val (fun _ => Val.pickF rfl rfl) ?_ | refine DT.val (fun _ => Val.pickDF rfl (by first | omega | assumption | decide | with_reducible exact nself | with_reducible exact rfl)) ?_ | refine DT.val (fun _ => Val.pickDT rfl (by first | omega | assumption | decide | with_reducible exact nself | with_reducible exact rfl)) ?_)
      | (show DS _ _ _ _ _ _ ⟨_, .convert _ _ _, _, _, _, none⟩ _ _ _; refine DS.val (by first | exact hS | exact H.has.mono (by (repeat (first | exact Sub.refl | exact Sub.nil | refine Sub.mem (by (repeat (first | exact List.mem_cons_self | refine List.mem_cons_of_mem _ ?_)); first | done | fail) ?_ | refine Sub.cons ?_)); first | done | fail)) (fun _ hS => Val.convN rfl (by first | assumption | decide | ((repeat (first | assumption | decide | exact Fits.modU rfl | refine Fits.and ?_ | refine Fits.or ?_ ?_ | refine Fits.xor ?_ ?_ | refine Fits.shr ?_ | exact Fits.u8 (by first | omega | assumption) | exact Fits.u32 (by first | omega | assumption) | exact Fits.u64 (by first | omega | assumption) | exact Fits.i64 (by first | omega | assumption))); first | done | fail))) ?_)
      | refine DT.gyes rfl rfl (by first | rfl | exact decide_eq_true (by first | omega | assumption | with_reducible exact rfl) | exact decide_eq_false (by first | omega | assumption | with_reducible exact nself)) ?_
      | refine DS.gyes rfl rfl (by first | rfl | exact decide_eq_true (by first | omega | assumption | with_reducible exact rfl) | exact decide_eq_false (by first | omega | assumption | with_reducible exact nself)) ?_
      | refine DW.gyes rfl rfl (by first | rfl | exact decide_eq_true (by first | omega | assumption | with_reducible exact rfl) | exact decide_eq_false (by first | omega | assumption | with_reducible exact nself)) ?_
      | (show DW _ _ _ _ _ _ ⟨_, .convert _ _ _, _, _, _, none⟩ _ _ _ _; refine DW.val (Val.toStr (by (conv => lhs; whnf); try rfl) (by first | exact (H.has).row1 (by (repeat (first | exact List.mem_cons_self | refine List.mem_cons_of_mem _ ?_)); first | done | fail) | exact (H.has).ro (by (repeat (first | exact List.mem_cons_self | refine List.mem_cons_of_mem _ ?_)); first | done | fail))) ?_)
      )
  all_goals exact ⟨rfl, H.picks (by (repeat (first | exact Picks.refl | (apply Picks.cons; focus ((repeat (first | exact Pull.here | apply Pull.there)); done)) | apply Picks.drop)); first | done | fail)⟩
end Go.Proofs.Ytmffpmmhdianeaa.X
