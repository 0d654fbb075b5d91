/- More laws of numbers: what is left of a number behind a mask. Nothing is assumed. -/
import Derived.Test.YtcibdcfdchpnpaaX7
namespace Go.Proofs.Ytcibdcfdchpnpaa.X
open Go Go.RowKit
set_option linter.unusedSimpArgs false
set_option linter.unusedVariables false
/-- The lowest part of a number. -/
def lowN (z : Int) (m : Nat) : Nat := (z % ((m : Int) + 1)).toNat
theorem lowN_le (z : Int) (m : Nat) : lowN z m ≤ m := by
  unfold lowN
  have h1 := Int.emod_nonneg z (b := (m : Int) + 1) (by omega)
  have h2 := Int.emod_lt_of_pos z (b := (m : Int) + 1) (by omega)
  omega
theorem lowN_nat (a m : Nat) : lowN (a : Int) m = a % (m + 1) := by
  unfold lowN
  have : ((m : Int) + 1) = ((m + 1 : Nat) : Int) := by omega
  rw [this, ← Int.natCast_emod]; rfl
section
variable {P : Program} {ρ : Operand → Value} {ty : TypeId} {w : World}
theorem Val.quoN {t yt : TypeId} {x y : Operand} {a b : Nat} (hx : ρ x = .int .i64 (a : Int)) (hy : ρ y = .int .i64 (b : Int)) (h0 : a ≤ 9223372036854775807) (hb : 0 < b) : Val P ρ (.binOp .quo t x y yt) ty w (.int .i64 ((a / b : Nat) : Int)) := by
  have := Val.quoI (P := P) (w := w) (ty := ty) (t := t) (yt := yt) hx hy (by omega) (by omega)
  rwa [← Int.natCast_ediv] at this
theorem Val.remN {t yt : TypeId} {x y : Operand} {a b : Nat} (hx : ρ x = .int .i64 (a : Int)) (hy : ρ y = .int .i64 (b : Int)) (hb : 0 < b) : Val P ρ (.binOp .rem t x y yt) ty w (.int .i64 ((a % b : Nat) : Int)) := by
  have := Val.remI (P := P) (w := w) (ty := ty) (t := t) (yt := yt) hx hy (by omega) (by omega)
  rwa [← Int.natCast_emod] at this
theorem bits_andM {k : IntKind} {t : TypeId} (z : Int) (m : Nat) (hb : m < 2 ^ k.bits) :
    (binOp .and t (.int k z) (.int k (m : Int))).run P w = .ok (.int k (k.wrap (((z % ((2 ^ k.bits : Nat) : Int)).toNat &&& m : Nat) : Int))) w := by
  simp [binOp, Op.intBits, BitVec.toNat_and, BitVec.toNat_ofInt, Nat.mod_eq_of_lt hb]
theorem Val.andM {t yt : TypeId} {x y : Operand} {z : Int} {m : Nat} (k : Nat) (hx : ρ x = .int .i64 z) (hy : ρ y = .int .i64 (m : Int)) (hm : m + 1 = 2 ^ k) (hk : k ≤ 63) :
    Val P ρ (.binOp .and t x y yt) ty w (.int .i64 ((lowN z m : Nat) : Int)) := by
  refine run_binI hx hy ?_
  have hm' : m = 2 ^ k - 1 := by omega
  have h2 : 2 ^ k ≤ 2 ^ 63 := Nat.pow_le_pow_right (by decide) hk
  have hlt : m < 2 ^ IntKind.i64.bits := by
    have : 2 ^ IntKind.i64.bits = 2 ^ 64 := rfl
    omega
  have hd : ((2 ^ k : Nat) : Int) ∣ ((2 ^ IntKind.i64.bits : Nat) : Int) := Int.natCast_dvd_natCast.2 (Nat.pow_dvd_pow 2 (by show k ≤ 64; omega))
  have hc : ((m : Int) + 1) = ((2 ^ k : Nat) : Int) := by omega
  have hpos : ((2 ^ IntKind.i64.bits : Nat) : Int) ≠ 0 := by decide
  have key : ((z % ((2 ^ IntKind.i64.bits : Nat) : Int)).toNat &&& m) = lowN z m := by
    conv => lhs; rw [hm']
    rw [Nat.and_two_pow_sub_one_eq_mod]
    unfold lowN
    rw [hc, ← Int.emod_emod_of_dvd z hd]
    have h0 := Int.emod_nonneg z hpos
    generalize z % ((2 ^ IntKind.i64.bits : Nat) : Int) = y at h0
    obtain ⟨n, rfl⟩ := Int.eq_ofNat_of_zero_le h0
    rw [← Int.natCast_emod]; rfl
  have hf : Fits .i64 (lowN z m) := by
    have := lowN_le z m
    exact Fits.i64 (by omega)
  rw [bits_andM z m hlt, key, hf.wrap]
end
/-- The fields of a struct that is built, each with what it is: one cell. -/
def Fields (n : Nat) (e : Env) (ps : List (Nat × Operand)) (us : List (Nat × List Value)) : Prop := ((ps.map fun p => (p.1, ev n e p.2)).map fun p => (p.1, p.2.cells.toList)) = us
theorem Fields.nil {n : Nat} {e : Env} : Fields n e [] [] := rfl
theorem Fields.one {n : Nat} {e : Env} {i : Nat} {x : Operand} {v : Value} {ps : List (Nat × Operand)} {us : List (Nat × List Value)} (h : ev n e x = v) (h1 : v.oneCell' = true) (t : Fields n e ps us) : Fields n e ((i, x) :: ps) ((i, [v]) :: us) := by
  unfold Fields at *
  simp [h, t, cells_of_one h1]
theorem Val.buildF {P : Program} {n : Nat} {e : Env} {ty : TypeId} {w : World} {t : TypeId} {ps : List (Nat × Operand)} {places : List (Nat × Nat)} {zs : List Value} {us : List (Nat × List Value)} {cs : List Value} [Bld P t places zs]
    (hp : Fields n e ps us) (hf : fillG places zs us = some cs) : Val P (ev n e) (.build t ps.toArray) ty w (.agg cs.toArray) :=
  Val.buildS (by simpa [Fields] using hp) hf
end Go.Proofs.Ytcibdcfdchpnpaa.X
