/- The types of several cells. Nothing is assumed. -/
import Derived.Test.YtcibdcfdchpnpaaT
import Derived.Test.YtcibdcfdchpnpaaX10
namespace Go.Proofs.Ytcibdcfdchpnpaa.X
open Go
theorem AggTy.of {P : Program} {t : TypeId} {d : TypeDesc} {n : Nat} (hd : P.underlying t = some d) (h : isOne d = false) (hs : (P.info? t).map (·.size) = some n) : AggTy P t n := by
  cases hi : P.info? t with
  | none => rw [hi] at hs; cases hs
  | some i => rw [hi] at hs; simp only [Option.map_some, Option.some.injEq] at hs; exact ⟨d, hd, h, i, hi, hs⟩
def isAggB (P : Program) (t : TypeId) : Bool := match P.underlying t with
  | some d => !isOne d
  | none => false
theorem AggTy.ofB {P : Program} {t : TypeId} {n : Nat} (h : isAggB P t = true) (hs : (P.info? t).map (·.size) = some n) : AggTy P t n := by
  unfold isAggB at h
  split at h
  · rename_i d hd; exact AggTy.of hd (by simpa using h) hs
  · cases h
instance : AggTy Try.prog 7 4 := AggTy.ofB (by kernel_rfl) (by kernel_rfl)
instance : AggTy Try.prog 8 4 := AggTy.ofB (by kernel_rfl) (by kernel_rfl)
instance : AggTy Try.prog 13 2 := AggTy.ofB (by kernel_rfl) (by kernel_rfl)
instance : AggTy Try.prog 14 2 := AggTy.ofB (by kernel_rfl) (by kernel_rfl)
instance : AggTy Try.prog 18 1 := AggTy.ofB (by kernel_rfl) (by kernel_rfl)
instance : AggTy Try.prog 19 1 := AggTy.ofB (by kernel_rfl) (by kernel_rfl)
instance : AggTy Try.prog 23 2 := AggTy.ofB (by kernel_rfl) (by kernel_rfl)
instance : AggTy Try.prog 24 2 := AggTy.ofB (by kernel_rfl) (by kernel_rfl)
instance : AggTy Try.prog 37 3 := AggTy.ofB (by kernel_rfl) (by kernel_rfl)
instance : AggTy Try.prog 38 3 := AggTy.ofB (by kernel_rfl) (by kernel_rfl)
instance : AggTy Try.prog 79 2 := AggTy.ofB (by kernel_rfl) (by kernel_rfl)
instance : AggTy Try.prog 80 2 := AggTy.ofB (by kernel_rfl) (by kernel_rfl)
instance : AggTy Try.prog 86 4 := AggTy.ofB (by kernel_rfl) (by kernel_rfl)
instance : AggTy Try.prog 87 4 := AggTy.ofB (by kernel_rfl) (by kernel_rfl)
instance : AggTy Try.prog 88 0 := AggTy.ofB (by kernel_rfl) (by kernel_rfl)
instance : AggTy Try.prog 89 0 := AggTy.ofB (by kernel_rfl) (by kernel_rfl)
instance : AggTy Try.prog 90 0 := AggTy.ofB (by kernel_rfl) (by kernel_rfl)
instance : AggTy Try.prog 98 11 := AggTy.ofB (by kernel_rfl) (by kernel_rfl)
instance : AggTy Try.prog 99 11 := AggTy.ofB (by kernel_rfl) (by kernel_rfl)
end Go.Proofs.Ytcibdcfdchpnpaa.X
