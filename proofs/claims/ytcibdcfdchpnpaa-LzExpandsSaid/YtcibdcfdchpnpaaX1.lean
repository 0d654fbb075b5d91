/- One law for each pure operation. Nothing is assumed. -/
import Derived.Test.YtcibdcfdchpnpaaX0
import Derived.IntWalk
import Derived.Laws.BitsAllLaws
import Derived.WalkLawsBesides
import Derived.WalkSpells
namespace Go.Proofs.Ytcibdcfdchpnpaa.X
open Go Go.RowKit
set_option linter.unusedSimpArgs false
set_option linter.unusedVariables false

/-- What a type is. -/
class UTy (P : Program) (t : TypeId) (d : outParam TypeDesc) : Prop where
  eq : P.underlying t = some d
/-- How large a type's values are. -/
class Sz (P : Program) (t : TypeId) (size bytes : outParam Nat) (z : outParam Value) : Prop where
  eq : ∃ i, P.info? t = some i ∧ i.size = size ∧ i.bytes = bytes ∧ i.zero = some z
class FieldOk (P : Program) (s f : Nat) (off : outParam Nat) : Prop where
  eq : ∃ fields fd i, P.underlying s = some (.struct fields) ∧ fields[f]? = some fd ∧ fd.offset = off ∧ P.info? fd.type = some i ∧ i.size ≠ 0

section
variable {P : Program} {ρ : Operand → Value} {ty : TypeId} {w : World}

theorem Val.move {x : Operand} : Val P ρ (.move x) ty w (ρ x) := ⟨fun _ _ _ _ => rfl⟩
theorem Val.assign {x : Operand} : Val P ρ (.assign x) ty w (ρ x) := ⟨fun _ _ _ _ => rfl⟩
theorem Val.moveI {x : Operand} {k : IntKind} {a : Int} (h : ρ x = .int k a) : Val P ρ (.move x) ty w (.int k a) := ⟨fun _ _ _ _ => by simp only [execOp, h]; rfl⟩
theorem Val.assignI {x : Operand} {k : IntKind} {a : Int} (h : ρ x = .int k a) : Val P ρ (.assign x) ty w (.int k a) := ⟨fun _ _ _ _ => by simp only [execOp, h]; rfl⟩

theorem Val.pickT {c a b : Operand} {t : Bool} (hc : ρ c = .bool t) (h : t = true) : Val P ρ (.pick c a b) ty w (ρ a) := by
  refine ⟨fun _ _ _ _ => ?_⟩
  subst h; simp [execOp, hc, asBool]
theorem Val.pickF {c a b : Operand} {t : Bool} (hc : ρ c = .bool t) (h : t = false) : Val P ρ (.pick c a b) ty w (ρ b) := by
  refine ⟨fun _ _ _ _ => ?_⟩
  subst h; simp [execOp, hc, asBool]

/-- Arithmetic. -/
theorem run_binI {op : BinOp} {t yt : TypeId} {x y : Operand} {k : IntKind} {a b : Int} {v : Value} (hx : ρ x = .int k a) (hy : ρ y = .int k b)
    (h : (binOp op t (.int k a) (.int k b)).run P w = .ok v w) : Val P ρ (.binOp op t x y yt) ty w v := by
  refine ⟨fun _ _ _ _ => ?_⟩
  have hg : (eqGuard op t x y (.int k a) (.int k b)).run P w = .ok () w := by
    unfold eqGuard; split <;> simp [go_sem]
  simp only [execOp, hx, hy]
  simp [go_sem, hg, h]

theorem Val.add {t yt : TypeId} {x y : Operand} {k : IntKind} {a b : Int} (hx : ρ x = .int k a) (hy : ρ y = .int k b) : Val P ρ (.binOp .add t x y yt) ty w (.int k (k.wrap (a + b))) :=
  run_binI hx hy (by simp [binOp, Op.intArith])
theorem Val.sub {t yt : TypeId} {x y : Operand} {k : IntKind} {a b : Int} (hx : ρ x = .int k a) (hy : ρ y = .int k b) : Val P ρ (.binOp .sub t x y yt) ty w (.int k (k.wrap (a - b))) :=
  run_binI hx hy (by simp [binOp, Op.intArith])
theorem Val.mul {t yt : TypeId} {x y : Operand} {k : IntKind} {a b : Int} (hx : ρ x = .int k a) (hy : ρ y = .int k b) : Val P ρ (.binOp .mul t x y yt) ty w (.int k (k.wrap (a * b))) :=
  run_binI hx hy (by simp [binOp, Op.intArith])
theorem Val.quo {t yt : TypeId} {x y : Operand} {k : IntKind} {a b : Int} (hx : ρ x = .int k a) (hy : ρ y = .int k b) (h0 : b ≠ 0) : Val P ρ (.binOp .quo t x y yt) ty w (.int k (k.wrap (a.tdiv b))) :=
  run_binI hx hy (by simp [binOp, Op.intDiv, h0])
theorem Val.rem {t yt : TypeId} {x y : Operand} {k : IntKind} {a b : Int} (hx : ρ x = .int k a) (hy : ρ y = .int k b) (h0 : b ≠ 0) : Val P ρ (.binOp .rem t x y yt) ty w (.int k (a.tmod b)) :=
  run_binI hx hy (by simp [binOp, Op.intDiv, h0])
theorem i64_wrap {c : Int} (h : -9223372036854775808 ≤ c ∧ c ≤ 9223372036854775807) : IntKind.i64.wrap c = c := by
  exact IntWalk.i64_in c h
theorem Val.addI {t yt : TypeId} {x y : Operand} {a b : Int} (hx : ρ x = .int .i64 a) (hy : ρ y = .int .i64 b) (h : -9223372036854775808 ≤ a + b ∧ a + b ≤ 9223372036854775807) : Val P ρ (.binOp .add t x y yt) ty w (.int .i64 (a + b)) := by
  have := Val.add (P := P) (w := w) (ty := ty) (t := t) (yt := yt) hx hy; rwa [i64_wrap h] at this
theorem Val.subI {t yt : TypeId} {x y : Operand} {a b : Int} (hx : ρ x = .int .i64 a) (hy : ρ y = .int .i64 b) (h : -9223372036854775808 ≤ a - b ∧ a - b ≤ 9223372036854775807) : Val P ρ (.binOp .sub t x y yt) ty w (.int .i64 (a - b)) := by
  have := Val.sub (P := P) (w := w) (ty := ty) (t := t) (yt := yt) hx hy; rwa [i64_wrap h] at this
theorem Val.mulI {t yt : TypeId} {x y : Operand} {a b : Int} (hx : ρ x = .int .i64 a) (hy : ρ y = .int .i64 b) (h : -9223372036854775808 ≤ a * b ∧ a * b ≤ 9223372036854775807) : Val P ρ (.binOp .mul t x y yt) ty w (.int .i64 (a * b)) := by
  have := Val.mul (P := P) (w := w) (ty := ty) (t := t) (yt := yt) hx hy; rwa [i64_wrap h] at this
/-- Division of what is not negative by what is positive. -/
theorem Val.quoI {t yt : TypeId} {x y : Operand} {a b : Int} (hx : ρ x = .int .i64 a) (hy : ρ y = .int .i64 b) (h0 : 0 ≤ a ∧ a ≤ 9223372036854775807) (hb : 0 < b) : Val P ρ (.binOp .quo t x y yt) ty w (.int .i64 (a / b)) := by
  have := Val.quo (P := P) (w := w) (ty := ty) (t := t) (yt := yt) hx hy (by omega)
  rw [Int.tdiv_eq_ediv_of_nonneg h0.1, i64_wrap ⟨by have := Int.ediv_nonneg h0.1 (Int.le_of_lt hb); omega, by have := Int.ediv_le_self b h0.1; omega⟩] at this
  exact this
theorem Val.remI {t yt : TypeId} {x y : Operand} {a b : Int} (hx : ρ x = .int .i64 a) (hy : ρ y = .int .i64 b) (h0 : 0 ≤ a) (hb : 0 < b) : Val P ρ (.binOp .rem t x y yt) ty w (.int .i64 (a % b)) := by
  have := Val.rem (P := P) (w := w) (ty := ty) (t := t) (yt := yt) hx hy (by omega)
  rwa [Int.tmod_eq_emod_of_nonneg h0] at this

/-- Comparisons. -/
theorem Val.lss {t yt : TypeId} {x y : Operand} {k : IntKind} {a b : Int} (hx : ρ x = .int k a) (hy : ρ y = .int k b) : Val P ρ (.binOp .lss t x y yt) ty w (.bool (decide (a < b))) :=
  run_binI hx hy (by simp [binOp, Op.intCmp])
theorem Val.leq {t yt : TypeId} {x y : Operand} {k : IntKind} {a b : Int} (hx : ρ x = .int k a) (hy : ρ y = .int k b) : Val P ρ (.binOp .leq t x y yt) ty w (.bool (decide (a ≤ b))) :=
  run_binI hx hy (by simp [binOp, Op.intCmp])
theorem Val.gtr {t yt : TypeId} {x y : Operand} {k : IntKind} {a b : Int} (hx : ρ x = .int k a) (hy : ρ y = .int k b) : Val P ρ (.binOp .gtr t x y yt) ty w (.bool (decide (b < a))) :=
  run_binI hx hy (by simp [binOp, Op.intCmp])
theorem Val.geq {t yt : TypeId} {x y : Operand} {k : IntKind} {a b : Int} (hx : ρ x = .int k a) (hy : ρ y = .int k b) : Val P ρ (.binOp .geq t x y yt) ty w (.bool (decide (b ≤ a))) :=
  run_binI hx hy (by simp [binOp, Op.intCmp])
theorem Val.eql {t yt : TypeId} {x y : Operand} {k : IntKind} {a b : Int} (hx : ρ x = .int k a) (hy : ρ y = .int k b) : Val P ρ (.binOp .eql t x y yt) ty w (.bool (decide (a = b))) :=
  run_binI hx hy (by simp [binOp, Op.intCmp]; exact Bool.beq_eq_decide_eq a b)
theorem Val.neq {t yt : TypeId} {x y : Operand} {k : IntKind} {a b : Int} (hx : ρ x = .int k a) (hy : ρ y = .int k b) : Val P ρ (.binOp .neq t x y yt) ty w (.bool (decide (a ≠ b))) :=
  run_binI hx hy (by simp [binOp, Op.intCmp, bne, Bool.beq_eq_decide_eq])

/-- Not. -/
theorem Val.notB {t : TypeId} {x : Operand} {b : Bool} (hx : ρ x = .bool b) : Val P ρ (.unOp .not t x) ty w (.bool (!b)) := by
  refine ⟨fun _ _ _ _ => ?_⟩
  simp [execOp, hx, Op.unary]
theorem Val.notD {t : TypeId} {x : Operand} {p : Prop} [Decidable p] (hx : ρ x = .bool (decide p)) : Val P ρ (.unOp .not t x) ty w (.bool (decide (¬ p))) := by
  refine ⟨fun _ _ _ _ => ?_⟩
  simp [execOp, hx, Op.unary]

/-- Bits of what is no negative number. -/
theorem ofInt_nat (b a : Nat) : BitVec.ofInt b (a : Int) = BitVec.ofNat b a := BitVec.ofInt_natCast b a

theorem wrap_small {k : IntKind} {a : Nat} (h : a < 2 ^ (k.bits - 1)) : k.wrap (a : Int) = a := by
  cases k <;> simp [IntKind.wrap, IntKind.bits, IntKind.signed, IntKind.max, IntKind.min] at * <;> omega
theorem wrap_uns {k : IntKind} (hk : k.signed = false) {a : Nat} (h : a < 2 ^ k.bits) : k.wrap (a : Int) = a := by
  cases k <;> simp [IntKind.wrap, IntKind.bits, IntKind.signed, IntKind.max, IntKind.min] at * <;> omega

theorem bits_and {k : IntKind} {t : TypeId} {a b : Nat} (ha : a < 2 ^ k.bits) (hb : b < 2 ^ k.bits) (hw : k.wrap ((a &&& b : Nat) : Int) = ((a &&& b : Nat) : Int)) :
    (binOp .and t (.int k a) (.int k b)).run P w = .ok (.int k ((a &&& b : Nat) : Int)) w := by
  simp [binOp, Op.intBits, BitVec.toNat_and, Nat.mod_eq_of_lt ha, Nat.mod_eq_of_lt hb, hw]
theorem bits_or {k : IntKind} {t : TypeId} {a b : Nat} (ha : a < 2 ^ k.bits) (hb : b < 2 ^ k.bits) (hw : k.wrap ((a ||| b : Nat) : Int) = ((a ||| b : Nat) : Int)) :
    (binOp .or t (.int k a) (.int k b)).run P w = .ok (.int k ((a ||| b : Nat) : Int)) w := by
  simp [binOp, Op.intBits, BitVec.toNat_or, Nat.mod_eq_of_lt ha, Nat.mod_eq_of_lt hb, hw]
theorem bits_xor {k : IntKind} {t : TypeId} {a b : Nat} (ha : a < 2 ^ k.bits) (hb : b < 2 ^ k.bits) (hw : k.wrap ((a ^^^ b : Nat) : Int) = ((a ^^^ b : Nat) : Int)) :
    (binOp .xor t (.int k a) (.int k b)).run P w = .ok (.int k ((a ^^^ b : Nat) : Int)) w := by
  simp [binOp, Op.intBits, BitVec.toNat_xor, Nat.mod_eq_of_lt ha, Nat.mod_eq_of_lt hb, hw]

/-- A number of its kind that is not negative (and, of a kind with a sign, below the half). -/
def Fits (k : IntKind) (a : Nat) : Prop := a < 2 ^ (if k.signed then k.bits - 1 else k.bits)
theorem Fits.lt {k : IntKind} {a : Nat} (h : Fits k a) : a < 2 ^ k.bits := by
  unfold Fits at h; cases k <;> simp [IntKind.signed, IntKind.bits] at * <;> omega
theorem Fits.wrap {k : IntKind} {a : Nat} (h : Fits k a) : k.wrap (a : Int) = a := by
  unfold Fits at h; cases hs : k.signed
  · rw [hs] at h; exact wrap_uns hs (by simpa using h)
  · rw [hs] at h; exact wrap_small (by simpa using h)
theorem Fits.and {k : IntKind} {a b : Nat} (h : Fits k a) : Fits k (a &&& b) := Nat.lt_of_le_of_lt Nat.and_le_left h
theorem Fits.or {k : IntKind} {a b : Nat} (h : Fits k a) (h' : Fits k b) : Fits k (a ||| b) := Nat.or_lt_two_pow h h'
theorem Fits.xor {k : IntKind} {a b : Nat} (h : Fits k a) (h' : Fits k b) : Fits k (a ^^^ b) := Nat.xor_lt_two_pow h h'

theorem Val.andN {t yt : TypeId} {x y : Operand} {k : IntKind} {a b : Nat} (hx : ρ x = .int k a) (hy : ρ y = .int k b) (ha : Fits k a) (hb : Fits k b) : Val P ρ (.binOp .and t x y yt) ty w (.int k ((a &&& b : Nat) : Int)) :=
  run_binI hx hy (bits_and ha.lt hb.lt ha.and.wrap)
theorem Val.orN {t yt : TypeId} {x y : Operand} {k : IntKind} {a b : Nat} (hx : ρ x = .int k a) (hy : ρ y = .int k b) (ha : Fits k a) (hb : Fits k b) : Val P ρ (.binOp .or t x y yt) ty w (.int k ((a ||| b : Nat) : Int)) :=
  run_binI hx hy (bits_or ha.lt hb.lt (ha.or hb).wrap)
theorem Val.xorN {t yt : TypeId} {x y : Operand} {k : IntKind} {a b : Nat} (hx : ρ x = .int k a) (hy : ρ y = .int k b) (ha : Fits k a) (hb : Fits k b) : Val P ρ (.binOp .xor t x y yt) ty w (.int k ((a ^^^ b : Nat) : Int)) :=
  run_binI hx hy (bits_xor ha.lt hb.lt (ha.xor hb).wrap)

/-- Shifts by a number that is not negative. -/
theorem run_sh {op : BinOp} (hop : op = .shl ∨ op = .shr) {t yt : TypeId} {x y : Operand} {k k' : IntKind} {a b : Int} {v : Value} (hx : ρ x = .int k a) (hy : ρ y = .int k' b)
    (h : (Op.shift op k a k' b).run P w = .ok v w) : Val P ρ (.binOp op t x y yt) ty w v := by
  refine ⟨fun _ _ _ _ => ?_⟩
  have hg : (eqGuard op t x y (.int k a) (.int k' b)).run P w = .ok () w := by
    unfold eqGuard; split <;> simp [go_sem]
  simp only [execOp, hx, hy]
  rcases hop with rfl | rfl <;> simp [go_sem, hg, binOp, h]
theorem Val.shr {t yt : TypeId} {x y : Operand} {k k' : IntKind} {a s : Nat} (hx : ρ x = .int k a) (hy : ρ y = .int k' s) (ha : a < 2 ^ k.bits) : Val P ρ (.binOp .shr t x y yt) ty w (.int k ((a >>> s : Nat) : Int)) := by
  refine run_sh (.inr rfl) hx hy ?_
  have hs : ¬ ((s : Int) < 0) := by omega
  simp only [Op.shift, hs, if_false, Int.toNat_natCast]
  have : ((a : Int).fdiv (2 ^ min s k.bits)) = ((a >>> s : Nat) : Int) := by
    rw [Nat.shiftRight_eq_div_pow]
    by_cases hm : s ≤ k.bits
    · rw [Nat.min_eq_left hm, Int.fdiv_eq_ediv_of_nonneg _ (Int.pow_nonneg (by omega))]
      norm_cast
    · have hm' : k.bits ≤ s := by omega
      rw [Nat.min_eq_right hm', Int.fdiv_eq_ediv_of_nonneg _ (Int.pow_nonneg (by omega))]
      have h1 : a / 2 ^ s = 0 := Nat.div_eq_of_lt (Nat.lt_of_lt_of_le ha (Nat.pow_le_pow_right (by omega) hm'))
      have h2 : a / 2 ^ k.bits = 0 := Nat.div_eq_of_lt ha
      rw [h1]; norm_cast
  simp [this]
/-- A shift to the left of an unsigned kind. -/
theorem Val.shlU {t yt : TypeId} {x y : Operand} {k k' : IntKind} {a s : Nat} (hk : k.signed = false) (hx : ρ x = .int k a) (hy : ρ y = .int k' s) : Val P ρ (.binOp .shl t x y yt) ty w (.int k ((a <<< s % 2 ^ k.bits : Nat) : Int)) := by
  refine run_sh (.inl rfl) hx hy ?_
  have hs : ¬ ((s : Int) < 0) := by omega
  simp only [Op.shift, hs, if_false, Int.toNat_natCast]
  have hw : ∀ c : Nat, k.wrap (c : Int) = ((c % 2 ^ k.bits : Nat) : Int) := by
    intro c
    cases k <;> simp [IntKind.wrap, IntKind.bits, IntKind.signed, IntKind.max, IntKind.min] at * <;> omega
  have : k.wrap ((a : Int) * 2 ^ min s k.bits) = ((a <<< s % 2 ^ k.bits : Nat) : Int) := by
    rw [show ((a : Int) * 2 ^ min s k.bits) = ((a * 2 ^ min s k.bits : Nat) : Int) from by norm_cast, hw, Nat.shiftLeft_eq]
    congr 1
    by_cases hm : s ≤ k.bits
    · rw [Nat.min_eq_left hm]
    · have hm' : k.bits ≤ s := by omega
      rw [Nat.min_eq_right hm', Nat.mul_mod_left]
      obtain ⟨d, rfl⟩ := Nat.exists_eq_add_of_le hm'
      rw [Nat.pow_add, Nat.mul_comm (2 ^ k.bits), ← Nat.mul_assoc, Nat.mul_mod_left]
  simp [this]
/-- A shift to the left of an int that stays one. -/
theorem Val.shlI {t yt : TypeId} {x y : Operand} {k' : IntKind} {a s : Nat} (hx : ρ x = .int .i64 a) (hy : ρ y = .int k' s) (h : a <<< s < 2 ^ 63) (hs : s ≤ 64) : Val P ρ (.binOp .shl t x y yt) ty w (.int .i64 ((a <<< s : Nat) : Int)) := by
  refine run_sh (.inl rfl) hx hy ?_
  have hs0 : ¬ ((s : Int) < 0) := by omega
  simp only [Op.shift, hs0, if_false, Int.toNat_natCast]
  rw [show min s IntKind.i64.bits = s from Nat.min_eq_left hs]
  rw [show ((a : Int) * 2 ^ s) = ((a <<< s : Nat) : Int) from by rw [Nat.shiftLeft_eq]; norm_cast]
  rw [wrap_small (k := .i64) (by simpa [IntKind.bits] using h)]
  simp

/-- Kinds turned. -/
theorem Val.conv {src dst : TypeId} {x : Operand} {k k' : IntKind} {a : Int} {d : TypeDesc} [hs : UTy P src d] [hd : UTy P dst (.int k')] (hx : ρ x = .int k a) : Val P ρ (.convert src dst x) ty w (.int k' (k'.wrap a)) := by
  refine ⟨fun _ _ _ _ => ?_⟩
  have h1 := hs.eq
  have h2 := hd.eq
  simp only [execOp, hx]
  have h3 : (convert src dst (.int k a)).run P w = .ok (.int k' (k'.wrap a)) w := by
    simp [convert, run_underlying h1, run_underlying h2, Conv.intToInt]
  simp [go_sem, h3]
theorem Val.convN {src dst : TypeId} {x : Operand} {k k' : IntKind} {a : Nat} {d : TypeDesc} [hs : UTy P src d] [hd : UTy P dst (.int k')] (hx : ρ x = .int k a) (h : Fits k' a) : Val P ρ (.convert src dst x) ty w (.int k' (a : Int)) := by
  have := Val.conv (w := w) (ty := ty) (hs := hs) (hd := hd) hx
  rwa [h.wrap] at this
/-- To an unsigned kind: the rest. -/
theorem Val.convU {src dst : TypeId} {x : Operand} {k k' : IntKind} {a : Nat} {d : TypeDesc} [hs : UTy P src d] [hd : UTy P dst (.int k')] (hx : ρ x = .int k a) (hk : k'.signed = false) : Val P ρ (.convert src dst x) ty w (.int k' ((a % 2 ^ k'.bits : Nat) : Int)) := by
  have := Val.conv (w := w) (ty := ty) (hs := hs) (hd := hd) hx
  have hw : k'.wrap (a : Int) = ((a % 2 ^ k'.bits : Nat) : Int) := by
    cases k' <;> simp [IntKind.wrap, IntKind.bits, IntKind.signed, IntKind.max, IntKind.min] at * <;> omega
  rwa [hw] at this
end
end Go.Proofs.Ytcibdcfdchpnpaa.X
