/- What the types and functions of this translation are: closed facts of the loaded program, by the kernel. Nothing is assumed. -/
import Derived.Test.YtcibdcfdchpnpaaRows
import Derived.Test.YtcibdcfdchpnpaaX3
import Derived.KernelRfl
namespace Go.Proofs.Ytcibdcfdchpnpaa.X
open Go
theorem Sz.of {P : Program} {t : TypeId} {s b : Nat} {z : Value} (h : ((P.info? t).map fun i => (i.size, i.bytes, i.zero)) = some (s, b, some z)) : Sz P t s b z := by
  cases hi : P.info? t with
  | none => rw [hi] at h; cases h
  | some i => rw [hi] at h; simp only [Option.map_some, Option.some.injEq, Prod.mk.injEq] at h; exact ⟨i, hi, h.1, h.2.1, h.2.2⟩
theorem OneTy.of {P : Program} {t : TypeId} {d : TypeDesc} (hd : P.underlying t = some d) (h : isOne d = true) (hs : (P.info? t).map (·.size) = some 1) : OneTy P t := by
  cases hi : P.info? t with
  | none => rw [hi] at hs; cases hs
  | some i => rw [hi] at hs; simp only [Option.map_some, Option.some.injEq] at hs; exact ⟨d, hd, h, i, hi, hs⟩
def fieldB (P : Program) (s f : Nat) : Option (Nat × Bool) := match P.underlying s with
  | some (.struct fs) => match fs[f]? with
    | some fd => (P.info? fd.type).map fun i => (fd.offset, i.size != 0)
    | none => none
  | _ => none
theorem FieldOk.of {P : Program} {s f off : Nat} (h : fieldB P s f = some (off, true)) : FieldOk P s f off := by
  unfold fieldB at h
  split at h
  · rename_i fs hfs
    split at h
    · rename_i fd hfd
      cases hi : P.info? fd.type with
      | none => rw [hi] at h; cases h
      | some i =>
        rw [hi] at h
        simp only [Option.map_some, Option.some.injEq, Prod.mk.injEq, bne_iff_ne] at h
        exact ⟨fs, fd, i, hfs, hfd, h.1, hi, h.2⟩
    · cases h
  · cases h
theorem FuncOk.of {P : Program} {f : FuncId} (fn : Func) (h : P.funcs[f]? = some fn) (h1 : (fn.name == "runtime.NumGoroutine") = false) (h2 : fn.body.isNone = false) : FuncOk P f := ⟨fn, h, h1, h2⟩

instance : Sz Try.prog 1 1 8 (.nilFunc) := Sz.of (by kernel_rfl)
instance : UTy Try.prog 2 (.int .i64) := ⟨by kernel_rfl⟩
instance : OneTy Try.prog 2 := OneTy.of (d := .int .i64) (by kernel_rfl) rfl (by kernel_rfl)
instance : Sz Try.prog 2 1 8 (.int .i64 0) := Sz.of (by kernel_rfl)
instance : UTy Try.prog 3 (.int .i64) := ⟨by kernel_rfl⟩
instance : OneTy Try.prog 3 := OneTy.of (d := .int .i64) (by kernel_rfl) rfl (by kernel_rfl)
instance : Sz Try.prog 3 1 8 (.int .i64 0) := Sz.of (by kernel_rfl)
instance : UTy Try.prog 4 (.bool) := ⟨by kernel_rfl⟩
instance : OneTy Try.prog 4 := OneTy.of (d := .bool) (by kernel_rfl) rfl (by kernel_rfl)
instance : Sz Try.prog 4 1 1 (.bool false) := Sz.of (by kernel_rfl)
instance : UTy Try.prog 5 (.int .u8) := ⟨by kernel_rfl⟩
instance : OneTy Try.prog 5 := OneTy.of (d := .int .u8) (by kernel_rfl) rfl (by kernel_rfl)
instance : Sz Try.prog 5 1 1 (.int .u8 0) := Sz.of (by kernel_rfl)
instance : UTy Try.prog 6 (.int .u8) := ⟨by kernel_rfl⟩
instance : OneTy Try.prog 6 := OneTy.of (d := .int .u8) (by kernel_rfl) rfl (by kernel_rfl)
instance : Sz Try.prog 6 1 1 (.int .u8 0) := Sz.of (by kernel_rfl)
instance : Sz Try.prog 7 4 24 (.agg #[.int .i64 0, .int .i64 0, .bool false, .int .u8 0]) := Sz.of (by kernel_rfl)
instance : Bld Try.prog 7 [(0, 1), (1, 1), (2, 1), (3, 1)] [.int .i64 0, .int .i64 0, .bool false, .int .u8 0] := Bld.of (by kernel_rfl)
instance : FieldOk Try.prog 7 0 0 := FieldOk.of (by kernel_rfl)
instance : FieldOk Try.prog 7 1 1 := FieldOk.of (by kernel_rfl)
instance : FieldOk Try.prog 7 2 2 := FieldOk.of (by kernel_rfl)
instance : FieldOk Try.prog 7 3 3 := FieldOk.of (by kernel_rfl)
instance : Sz Try.prog 8 4 24 (.agg #[.int .i64 0, .int .i64 0, .bool false, .int .u8 0]) := Sz.of (by kernel_rfl)
instance : Bld Try.prog 8 [(0, 1), (1, 1), (2, 1), (3, 1)] [.int .i64 0, .int .i64 0, .bool false, .int .u8 0] := Bld.of (by kernel_rfl)
instance : FieldOk Try.prog 8 0 0 := FieldOk.of (by kernel_rfl)
instance : FieldOk Try.prog 8 1 1 := FieldOk.of (by kernel_rfl)
instance : FieldOk Try.prog 8 2 2 := FieldOk.of (by kernel_rfl)
instance : FieldOk Try.prog 8 3 3 := FieldOk.of (by kernel_rfl)
instance : UTy Try.prog 9 (.string) := ⟨by kernel_rfl⟩
instance : OneTy Try.prog 9 := OneTy.of (d := .string) (by kernel_rfl) rfl (by kernel_rfl)
instance : Sz Try.prog 9 1 16 (.string ByteArray.empty) := Sz.of (by kernel_rfl)
instance : UTy Try.prog 10 (.string) := ⟨by kernel_rfl⟩
instance : OneTy Try.prog 10 := OneTy.of (d := .string) (by kernel_rfl) rfl (by kernel_rfl)
instance : Sz Try.prog 10 1 16 (.string ByteArray.empty) := Sz.of (by kernel_rfl)
instance : UTy Try.prog 11 (.string) := ⟨by kernel_rfl⟩
instance : OneTy Try.prog 11 := OneTy.of (d := .string) (by kernel_rfl) rfl (by kernel_rfl)
instance : Sz Try.prog 11 1 16 (.string ByteArray.empty) := Sz.of (by kernel_rfl)
instance : UTy Try.prog 12 (.int .u64) := ⟨by kernel_rfl⟩
instance : OneTy Try.prog 12 := OneTy.of (d := .int .u64) (by kernel_rfl) rfl (by kernel_rfl)
instance : Sz Try.prog 12 1 8 (.int .u64 0) := Sz.of (by kernel_rfl)
instance : Sz Try.prog 13 2 24 (.agg #[.string ByteArray.empty, .int .u64 0]) := Sz.of (by kernel_rfl)
instance : Bld Try.prog 13 [(0, 1), (1, 1)] [.string ByteArray.empty, .int .u64 0] := Bld.of (by kernel_rfl)
instance : FieldOk Try.prog 13 0 0 := FieldOk.of (by kernel_rfl)
instance : FieldOk Try.prog 13 1 1 := FieldOk.of (by kernel_rfl)
instance : Sz Try.prog 14 2 24 (.agg #[.string ByteArray.empty, .int .u64 0]) := Sz.of (by kernel_rfl)
instance : Bld Try.prog 14 [(0, 1), (1, 1)] [.string ByteArray.empty, .int .u64 0] := Bld.of (by kernel_rfl)
instance : FieldOk Try.prog 14 0 0 := FieldOk.of (by kernel_rfl)
instance : FieldOk Try.prog 14 1 1 := FieldOk.of (by kernel_rfl)
instance : UTy Try.prog 15 (.pointer 87) := ⟨by kernel_rfl⟩
instance : OneTy Try.prog 15 := OneTy.of (d := .pointer 87) (by kernel_rfl) rfl (by kernel_rfl)
instance : Sz Try.prog 15 1 8 (.pointer none) := Sz.of (by kernel_rfl)
instance : UTy Try.prog 16 (.pointer 90) := ⟨by kernel_rfl⟩
instance : OneTy Try.prog 16 := OneTy.of (d := .pointer 90) (by kernel_rfl) rfl (by kernel_rfl)
instance : Sz Try.prog 16 1 8 (.pointer none) := Sz.of (by kernel_rfl)
instance : UTy Try.prog 17 (.pointer 99) := ⟨by kernel_rfl⟩
instance : OneTy Try.prog 17 := OneTy.of (d := .pointer 99) (by kernel_rfl) rfl (by kernel_rfl)
instance : Sz Try.prog 17 1 8 (.pointer none) := Sz.of (by kernel_rfl)
instance : Sz Try.prog 18 1 8 (.agg #[.pointer none]) := Sz.of (by kernel_rfl)
instance : Bld Try.prog 18 [(0, 1)] [.pointer none] := Bld.of (by kernel_rfl)
instance : FieldOk Try.prog 18 0 0 := FieldOk.of (by kernel_rfl)
instance : Sz Try.prog 19 1 8 (.agg #[.pointer none]) := Sz.of (by kernel_rfl)
instance : Bld Try.prog 19 [(0, 1)] [.pointer none] := Bld.of (by kernel_rfl)
instance : FieldOk Try.prog 19 0 0 := FieldOk.of (by kernel_rfl)
instance : Sz Try.prog 20 1 16 (.nilIface) := Sz.of (by kernel_rfl)
instance : UTy Try.prog 21 (.int .i32) := ⟨by kernel_rfl⟩
instance : OneTy Try.prog 21 := OneTy.of (d := .int .i32) (by kernel_rfl) rfl (by kernel_rfl)
instance : Sz Try.prog 21 1 4 (.int .i32 0) := Sz.of (by kernel_rfl)
instance : UTy Try.prog 22 (.slice 24) := ⟨by kernel_rfl⟩
instance : OneTy Try.prog 22 := OneTy.of (d := .slice 24) (by kernel_rfl) rfl (by kernel_rfl)
instance : Sz Try.prog 22 1 24 (.slice none 0 0) := Sz.of (by kernel_rfl)
instance : Sz Try.prog 23 2 16 (.agg #[.int .i64 0, .int .i64 0]) := Sz.of (by kernel_rfl)
instance : Bld Try.prog 23 [(0, 1), (1, 1)] [.int .i64 0, .int .i64 0] := Bld.of (by kernel_rfl)
instance : FieldOk Try.prog 23 0 0 := FieldOk.of (by kernel_rfl)
instance : FieldOk Try.prog 23 1 1 := FieldOk.of (by kernel_rfl)
instance : Sz Try.prog 24 2 16 (.agg #[.int .i64 0, .int .i64 0]) := Sz.of (by kernel_rfl)
instance : Bld Try.prog 24 [(0, 1), (1, 1)] [.int .i64 0, .int .i64 0] := Bld.of (by kernel_rfl)
instance : FieldOk Try.prog 24 0 0 := FieldOk.of (by kernel_rfl)
instance : FieldOk Try.prog 24 1 1 := FieldOk.of (by kernel_rfl)
instance : UTy Try.prog 25 (.slice 3) := ⟨by kernel_rfl⟩
instance : OneTy Try.prog 25 := OneTy.of (d := .slice 3) (by kernel_rfl) rfl (by kernel_rfl)
instance : Sz Try.prog 25 1 24 (.slice none 0 0) := Sz.of (by kernel_rfl)
instance : UTy Try.prog 26 (.int .i64) := ⟨by kernel_rfl⟩
instance : OneTy Try.prog 26 := OneTy.of (d := .int .i64) (by kernel_rfl) rfl (by kernel_rfl)
instance : Sz Try.prog 26 1 8 (.int .i64 0) := Sz.of (by kernel_rfl)
instance : Sz Try.prog 28 1 8 (.nilFunc) := Sz.of (by kernel_rfl)
instance : Sz Try.prog 30 1 8 (.nilFunc) := Sz.of (by kernel_rfl)
instance : Sz Try.prog 31 1 8 (.nilFunc) := Sz.of (by kernel_rfl)
instance : Sz Try.prog 32 1 8 (.nilFunc) := Sz.of (by kernel_rfl)
instance : Sz Try.prog 33 1 8 (.nilFunc) := Sz.of (by kernel_rfl)
instance : UTy Try.prog 34 (.slice 5) := ⟨by kernel_rfl⟩
instance : OneTy Try.prog 34 := OneTy.of (d := .slice 5) (by kernel_rfl) rfl (by kernel_rfl)
instance : Sz Try.prog 34 1 24 (.slice none 0 0) := Sz.of (by kernel_rfl)
instance : UTy Try.prog 35 (.slice 38) := ⟨by kernel_rfl⟩
instance : OneTy Try.prog 35 := OneTy.of (d := .slice 38) (by kernel_rfl) rfl (by kernel_rfl)
instance : Sz Try.prog 35 1 24 (.slice none 0 0) := Sz.of (by kernel_rfl)
instance : Sz Try.prog 36 1 8 (.nilFunc) := Sz.of (by kernel_rfl)
instance : Sz Try.prog 37 3 24 (.agg #[.int .i64 0, .int .i64 0, .int .u8 0]) := Sz.of (by kernel_rfl)
instance : Bld Try.prog 37 [(0, 1), (1, 1), (2, 1)] [.int .i64 0, .int .i64 0, .int .u8 0] := Bld.of (by kernel_rfl)
instance : FieldOk Try.prog 37 0 0 := FieldOk.of (by kernel_rfl)
instance : FieldOk Try.prog 37 1 1 := FieldOk.of (by kernel_rfl)
instance : FieldOk Try.prog 37 2 2 := FieldOk.of (by kernel_rfl)
instance : Sz Try.prog 38 3 24 (.agg #[.int .i64 0, .int .i64 0, .int .u8 0]) := Sz.of (by kernel_rfl)
instance : Bld Try.prog 38 [(0, 1), (1, 1), (2, 1)] [.int .i64 0, .int .i64 0, .int .u8 0] := Bld.of (by kernel_rfl)
instance : FieldOk Try.prog 38 0 0 := FieldOk.of (by kernel_rfl)
instance : FieldOk Try.prog 38 1 1 := FieldOk.of (by kernel_rfl)
instance : FieldOk Try.prog 38 2 2 := FieldOk.of (by kernel_rfl)
instance : Sz Try.prog 39 1 8 (.nilFunc) := Sz.of (by kernel_rfl)
instance : Sz Try.prog 40 1 8 (.nilFunc) := Sz.of (by kernel_rfl)
instance : Sz Try.prog 42 1 8 (.nilFunc) := Sz.of (by kernel_rfl)
instance : Sz Try.prog 43 1 8 (.nilFunc) := Sz.of (by kernel_rfl)
instance : Sz Try.prog 44 1 8 (.nilFunc) := Sz.of (by kernel_rfl)
instance : Sz Try.prog 45 1 8 (.nilFunc) := Sz.of (by kernel_rfl)
instance : Sz Try.prog 46 1 8 (.nilFunc) := Sz.of (by kernel_rfl)
instance : Sz Try.prog 47 1 8 (.nilFunc) := Sz.of (by kernel_rfl)
instance : Sz Try.prog 48 1 8 (.nilFunc) := Sz.of (by kernel_rfl)
instance : Sz Try.prog 50 1 8 (.nilFunc) := Sz.of (by kernel_rfl)
instance : Sz Try.prog 52 1 8 (.nilFunc) := Sz.of (by kernel_rfl)
instance : Sz Try.prog 53 1 8 (.nilFunc) := Sz.of (by kernel_rfl)
instance : Sz Try.prog 55 1 8 (.nilFunc) := Sz.of (by kernel_rfl)
instance : Sz Try.prog 56 1 8 (.nilFunc) := Sz.of (by kernel_rfl)
instance : Sz Try.prog 57 1 8 (.nilFunc) := Sz.of (by kernel_rfl)
instance : UTy Try.prog 58 (.int .u32) := ⟨by kernel_rfl⟩
instance : OneTy Try.prog 58 := OneTy.of (d := .int .u32) (by kernel_rfl) rfl (by kernel_rfl)
instance : Sz Try.prog 58 1 4 (.int .u32 0) := Sz.of (by kernel_rfl)
instance : Sz Try.prog 60 1 8 (.nilFunc) := Sz.of (by kernel_rfl)
instance : Sz Try.prog 62 1 8 (.nilFunc) := Sz.of (by kernel_rfl)
instance : Sz Try.prog 63 1 8 (.nilFunc) := Sz.of (by kernel_rfl)
instance : Sz Try.prog 64 1 8 (.nilFunc) := Sz.of (by kernel_rfl)
instance : Sz Try.prog 65 1 8 (.nilFunc) := Sz.of (by kernel_rfl)
instance : UTy Try.prog 66 (.int .u64) := ⟨by kernel_rfl⟩
instance : OneTy Try.prog 66 := OneTy.of (d := .int .u64) (by kernel_rfl) rfl (by kernel_rfl)
instance : Sz Try.prog 66 1 8 (.int .u64 0) := Sz.of (by kernel_rfl)
instance : Sz Try.prog 67 1 8 (.nilFunc) := Sz.of (by kernel_rfl)
instance : Sz Try.prog 69 1 8 (.nilFunc) := Sz.of (by kernel_rfl)
instance : Sz Try.prog 70 1 8 (.nilFunc) := Sz.of (by kernel_rfl)
instance : Sz Try.prog 71 1 8 (.nilFunc) := Sz.of (by kernel_rfl)
instance : UTy Try.prog 72 (.pointer 80) := ⟨by kernel_rfl⟩
instance : OneTy Try.prog 72 := OneTy.of (d := .pointer 80) (by kernel_rfl) rfl (by kernel_rfl)
instance : Sz Try.prog 72 1 8 (.pointer none) := Sz.of (by kernel_rfl)
instance : Sz Try.prog 73 1 8 (.nilFunc) := Sz.of (by kernel_rfl)
instance : Sz Try.prog 74 1 8 (.nilFunc) := Sz.of (by kernel_rfl)
instance : Sz Try.prog 75 1 8 (.nilFunc) := Sz.of (by kernel_rfl)
instance : Sz Try.prog 76 1 8 (.nilFunc) := Sz.of (by kernel_rfl)
instance : Sz Try.prog 77 1 8 (.nilFunc) := Sz.of (by kernel_rfl)
instance : Sz Try.prog 78 1 8 (.nilFunc) := Sz.of (by kernel_rfl)
instance : Sz Try.prog 79 2 48 (.agg #[.slice none 0 0, .slice none 0 0]) := Sz.of (by kernel_rfl)
instance : Bld Try.prog 79 [(0, 1), (1, 1)] [.slice none 0 0, .slice none 0 0] := Bld.of (by kernel_rfl)
instance : FieldOk Try.prog 79 0 0 := FieldOk.of (by kernel_rfl)
instance : FieldOk Try.prog 79 1 1 := FieldOk.of (by kernel_rfl)
instance : Sz Try.prog 80 2 48 (.agg #[.slice none 0 0, .slice none 0 0]) := Sz.of (by kernel_rfl)
instance : Bld Try.prog 80 [(0, 1), (1, 1)] [.slice none 0 0, .slice none 0 0] := Bld.of (by kernel_rfl)
instance : FieldOk Try.prog 80 0 0 := FieldOk.of (by kernel_rfl)
instance : FieldOk Try.prog 80 1 1 := FieldOk.of (by kernel_rfl)
instance : UTy Try.prog 81 (.map 3 3) := ⟨by kernel_rfl⟩
instance : OneTy Try.prog 81 := OneTy.of (d := .map 3 3) (by kernel_rfl) rfl (by kernel_rfl)
instance : Sz Try.prog 81 1 8 (.map none) := Sz.of (by kernel_rfl)
instance : Sz Try.prog 83 1 8 (.nilFunc) := Sz.of (by kernel_rfl)
instance : Sz Try.prog 84 1 8 (.nilFunc) := Sz.of (by kernel_rfl)
instance : Sz Try.prog 85 1 8 (.nilFunc) := Sz.of (by kernel_rfl)
instance : Sz Try.prog 86 4 40 (.agg #[.pointer none, .pointer none, .pointer none, .string ByteArray.empty]) := Sz.of (by kernel_rfl)
instance : Bld Try.prog 86 [(0, 1), (1, 1), (2, 1), (3, 1)] [.pointer none, .pointer none, .pointer none, .string ByteArray.empty] := Bld.of (by kernel_rfl)
instance : FieldOk Try.prog 86 0 0 := FieldOk.of (by kernel_rfl)
instance : FieldOk Try.prog 86 1 1 := FieldOk.of (by kernel_rfl)
instance : FieldOk Try.prog 86 2 2 := FieldOk.of (by kernel_rfl)
instance : FieldOk Try.prog 86 3 3 := FieldOk.of (by kernel_rfl)
instance : Sz Try.prog 87 4 40 (.agg #[.pointer none, .pointer none, .pointer none, .string ByteArray.empty]) := Sz.of (by kernel_rfl)
instance : Bld Try.prog 87 [(0, 1), (1, 1), (2, 1), (3, 1)] [.pointer none, .pointer none, .pointer none, .string ByteArray.empty] := Bld.of (by kernel_rfl)
instance : FieldOk Try.prog 87 0 0 := FieldOk.of (by kernel_rfl)
instance : FieldOk Try.prog 87 1 1 := FieldOk.of (by kernel_rfl)
instance : FieldOk Try.prog 87 2 2 := FieldOk.of (by kernel_rfl)
instance : FieldOk Try.prog 87 3 3 := FieldOk.of (by kernel_rfl)
instance : Sz Try.prog 88 0 0 (.agg #[]) := Sz.of (by kernel_rfl)
instance : Sz Try.prog 89 0 0 (.agg #[]) := Sz.of (by kernel_rfl)
instance : Bld Try.prog 89 [(0, 0)] [] := Bld.of (by kernel_rfl)
instance : Sz Try.prog 90 0 0 (.agg #[]) := Sz.of (by kernel_rfl)
instance : Bld Try.prog 90 [(0, 0)] [] := Bld.of (by kernel_rfl)
instance : Sz Try.prog 91 1 8 (.nilFunc) := Sz.of (by kernel_rfl)
instance : UTy Try.prog 92 (.int .u8) := ⟨by kernel_rfl⟩
instance : OneTy Try.prog 92 := OneTy.of (d := .int .u8) (by kernel_rfl) rfl (by kernel_rfl)
instance : Sz Try.prog 92 1 1 (.int .u8 0) := Sz.of (by kernel_rfl)
instance : UTy Try.prog 93 (.int .u8) := ⟨by kernel_rfl⟩
instance : OneTy Try.prog 93 := OneTy.of (d := .int .u8) (by kernel_rfl) rfl (by kernel_rfl)
instance : Sz Try.prog 93 1 1 (.int .u8 0) := Sz.of (by kernel_rfl)
instance : Sz Try.prog 94 1 8 (.nilFunc) := Sz.of (by kernel_rfl)
instance : UTy Try.prog 95 (.pointer 5) := ⟨by kernel_rfl⟩
instance : OneTy Try.prog 95 := OneTy.of (d := .pointer 5) (by kernel_rfl) rfl (by kernel_rfl)
instance : Sz Try.prog 95 1 8 (.pointer none) := Sz.of (by kernel_rfl)
instance : UTy Try.prog 96 (.int .i32) := ⟨by kernel_rfl⟩
instance : OneTy Try.prog 96 := OneTy.of (d := .int .i32) (by kernel_rfl) rfl (by kernel_rfl)
instance : Sz Try.prog 96 1 4 (.int .i32 0) := Sz.of (by kernel_rfl)
instance : UTy Try.prog 97 (.int .i32) := ⟨by kernel_rfl⟩
instance : OneTy Try.prog 97 := OneTy.of (d := .int .i32) (by kernel_rfl) rfl (by kernel_rfl)
instance : Sz Try.prog 97 1 4 (.int .i32 0) := Sz.of (by kernel_rfl)
instance : Sz Try.prog 98 11 48 (.agg #[.int .u64 0, .int .u64 0, .int .u32 0, .int .u8 0, .int .u8 0, .int .u8 0, .int .u8 0, .nilFunc, .pointer none, .int .i32 0, .int .i32 0]) := Sz.of (by kernel_rfl)
instance : Bld Try.prog 98 [(0, 1), (1, 1), (2, 1), (3, 1), (4, 1), (5, 1), (6, 1), (7, 1), (8, 1), (9, 1), (10, 1)] [.int .u64 0, .int .u64 0, .int .u32 0, .int .u8 0, .int .u8 0, .int .u8 0, .int .u8 0, .nilFunc, .pointer none, .int .i32 0, .int .i32 0] := Bld.of (by kernel_rfl)
instance : FieldOk Try.prog 98 0 0 := FieldOk.of (by kernel_rfl)
instance : FieldOk Try.prog 98 1 1 := FieldOk.of (by kernel_rfl)
instance : FieldOk Try.prog 98 2 2 := FieldOk.of (by kernel_rfl)
instance : FieldOk Try.prog 98 3 3 := FieldOk.of (by kernel_rfl)
instance : FieldOk Try.prog 98 4 4 := FieldOk.of (by kernel_rfl)
instance : FieldOk Try.prog 98 5 5 := FieldOk.of (by kernel_rfl)
instance : FieldOk Try.prog 98 6 6 := FieldOk.of (by kernel_rfl)
instance : FieldOk Try.prog 98 7 7 := FieldOk.of (by kernel_rfl)
instance : FieldOk Try.prog 98 8 8 := FieldOk.of (by kernel_rfl)
instance : FieldOk Try.prog 98 9 9 := FieldOk.of (by kernel_rfl)
instance : FieldOk Try.prog 98 10 10 := FieldOk.of (by kernel_rfl)
instance : Sz Try.prog 99 11 48 (.agg #[.int .u64 0, .int .u64 0, .int .u32 0, .int .u8 0, .int .u8 0, .int .u8 0, .int .u8 0, .nilFunc, .pointer none, .int .i32 0, .int .i32 0]) := Sz.of (by kernel_rfl)
instance : Bld Try.prog 99 [(0, 1), (1, 1), (2, 1), (3, 1), (4, 1), (5, 1), (6, 1), (7, 1), (8, 1), (9, 1), (10, 1)] [.int .u64 0, .int .u64 0, .int .u32 0, .int .u8 0, .int .u8 0, .int .u8 0, .int .u8 0, .nilFunc, .pointer none, .int .i32 0, .int .i32 0] := Bld.of (by kernel_rfl)
instance : FieldOk Try.prog 99 0 0 := FieldOk.of (by kernel_rfl)
instance : FieldOk Try.prog 99 1 1 := FieldOk.of (by kernel_rfl)
instance : FieldOk Try.prog 99 2 2 := FieldOk.of (by kernel_rfl)
instance : FieldOk Try.prog 99 3 3 := FieldOk.of (by kernel_rfl)
instance : FieldOk Try.prog 99 4 4 := FieldOk.of (by kernel_rfl)
instance : FieldOk Try.prog 99 5 5 := FieldOk.of (by kernel_rfl)
instance : FieldOk Try.prog 99 6 6 := FieldOk.of (by kernel_rfl)
instance : FieldOk Try.prog 99 7 7 := FieldOk.of (by kernel_rfl)
instance : FieldOk Try.prog 99 8 8 := FieldOk.of (by kernel_rfl)
instance : FieldOk Try.prog 99 9 9 := FieldOk.of (by kernel_rfl)
instance : FieldOk Try.prog 99 10 10 := FieldOk.of (by kernel_rfl)
instance : FuncOk Try.prog 3 := FuncOk.of Try.f3 Try.func3 (by kernel_rfl) rfl  -- portmanteau/portmanteaulaw8.LensFlat
instance : FuncOk Try.prog 4 := FuncOk.of Try.f4 Try.func4 (by kernel_rfl) rfl  -- portmanteau/portmanteaulaw7.MatchRuns
instance : FuncOk Try.prog 5 := FuncOk.of Try.f5 Try.func5 (by kernel_rfl) rfl  -- portmanteau/portmanteaulaw7.MatchLongest
instance : FuncOk Try.prog 6 := FuncOk.of Try.f6 Try.func6 (by kernel_rfl) rfl  -- portmanteau/portmanteaulaw7.MatchTells
instance : FuncOk Try.prog 7 := FuncOk.of Try.f7 Try.func7 (by kernel_rfl) rfl  -- portmanteau/portmanteaulaw6.LzParts
instance : FuncOk Try.prog 8 := FuncOk.of Try.f8 Try.func8 (by kernel_rfl) rfl  -- portmanteau/portmanteaulaw6.LzExpands
instance : FuncOk Try.prog 9 := FuncOk.of Try.f9 Try.func9 (by kernel_rfl) rfl  -- portmanteau/portmanteaulaw6.LzCopies
instance : FuncOk Try.prog 10 := FuncOk.of Try.f10 Try.func10 (by kernel_rfl) rfl  -- portmanteau/portmanteaulaw6.LzSymbols
instance : FuncOk Try.prog 11 := FuncOk.of Try.f11 Try.func11 (by kernel_rfl) rfl  -- portmanteau/portmanteaulaw7.MatchBack
instance : FuncOk Try.prog 12 := FuncOk.of Try.f12 Try.func12 (by kernel_rfl) rfl  -- portmanteau/portmanteaulaw8.LensLong
instance : FuncOk Try.prog 13 := FuncOk.of Try.f13 Try.func13 (by kernel_rfl) rfl  -- portmanteau/portmanteaulaw8.LensRuns
instance : FuncOk Try.prog 14 := FuncOk.of Try.f14 Try.func14 (by kernel_rfl) rfl  -- portmanteau/lens.Flat
instance : FuncOk Try.prog 15 := FuncOk.of Try.f15 Try.func15 (by kernel_rfl) rfl  -- portmanteau/portmanteauref1.Flat
instance : FuncOk Try.prog 16 := FuncOk.of Try.f16 Try.func16 (by kernel_rfl) rfl  -- portmanteau/portmanteauref1.SameInts
instance : FuncOk Try.prog 17 := FuncOk.of Try.f17 Try.func17 (by kernel_rfl) rfl  -- portmanteau/portmanteaulaw8.awake
instance : FuncOk Try.prog 18 := FuncOk.of Try.f18 Try.func18 (by kernel_rfl) rfl  -- portmanteau/match.Tokens
instance : FuncOk Try.prog 19 := FuncOk.of Try.f19 Try.func19 (by kernel_rfl) rfl  -- portmanteau/portmanteaulaw7.awake
instance : FuncOk Try.prog 20 := FuncOk.of Try.f20 Try.func20 (by kernel_rfl) rfl  -- portmanteau/portmanteaulaw7.Rows
instance : FuncOk Try.prog 21 := FuncOk.of Try.f21 Try.func21 (by kernel_rfl) rfl  -- portmanteau/match.Longest
instance : FuncOk Try.prog 22 := FuncOk.of Try.f22 Try.func22 (by kernel_rfl) rfl  -- portmanteau/portmanteaulaw7.long
instance : FuncOk Try.prog 23 := FuncOk.of Try.f23 Try.func23 (by kernel_rfl) rfl  -- portmanteau/portmanteaulaw7.same
instance : FuncOk Try.prog 24 := FuncOk.of Try.f24 Try.func24 (by kernel_rfl) rfl  -- portmanteau/portmanteauref1.Longest
instance : FuncOk Try.prog 25 := FuncOk.of Try.f25 Try.func25 (by kernel_rfl) rfl  -- portmanteau/portmanteauref1.Tokens
instance : FuncOk Try.prog 26 := FuncOk.of Try.f26 Try.func26 (by kernel_rfl) rfl  -- portmanteau/portmanteaulaw6.Tame
instance : FuncOk Try.prog 27 := FuncOk.of Try.f27 Try.func27 (by kernel_rfl) rfl  -- portmanteau/lz.Expand
instance : FuncOk Try.prog 28 := FuncOk.of Try.f28 Try.func28 (by kernel_rfl) rfl  -- portmanteau/lz.Put
instance : FuncOk Try.prog 29 := FuncOk.of Try.f29 Try.func29 (by kernel_rfl) rfl  -- portmanteau/portmanteaulaw6.awake
instance : FuncOk Try.prog 30 := FuncOk.of Try.f30 Try.func30 (by kernel_rfl) rfl  -- portmanteau/portmanteauref1.Put
instance : FuncOk Try.prog 31 := FuncOk.of Try.f31 Try.func31 (by kernel_rfl) rfl  -- portmanteau/lz.Ok
instance : FuncOk Try.prog 32 := FuncOk.of Try.f32 Try.func32 (by kernel_rfl) rfl  -- portmanteau/portmanteauref1.TokenOk
instance : FuncOk Try.prog 33 := FuncOk.of Try.f33 Try.func33 (by kernel_rfl) rfl  -- portmanteau/lz.SymLen
instance : FuncOk Try.prog 34 := FuncOk.of Try.f34 Try.func34 (by kernel_rfl) rfl  -- portmanteau/lz.LenSym
instance : FuncOk Try.prog 35 := FuncOk.of Try.f35 Try.func35 (by kernel_rfl) rfl  -- portmanteau/lz.SymDist
instance : FuncOk Try.prog 36 := FuncOk.of Try.f36 Try.func36 (by kernel_rfl) rfl  -- portmanteau/lz.DistSym
instance : FuncOk Try.prog 37 := FuncOk.of Try.f37 Try.func37 (by kernel_rfl) rfl  -- portmanteau/lens.Runs
instance : FuncOk Try.prog 38 := FuncOk.of Try.f38 Try.func38 (by kernel_rfl) rfl  -- portmanteau/lens.add
instance : FuncOk Try.prog 39 := FuncOk.of Try.f39 Try.func39 (by kernel_rfl) rfl  -- portmanteau/portmanteauref1.more
instance : FuncOk Try.prog 40 := FuncOk.of Try.f40 Try.func40 (by kernel_rfl) rfl  -- portmanteau/lens.Order
instance : FuncOk Try.prog 41 := FuncOk.of Try.f41 Try.func41 (by kernel_rfl) rfl  -- portmanteau/portmanteauref1.Order
instance : FuncOk Try.prog 42 := FuncOk.of Try.f42 Try.func42 (by kernel_rfl) rfl  -- portmanteau/match.newFinder
instance : FuncOk Try.prog 43 := FuncOk.of Try.f43 Try.func43 (by kernel_rfl) rfl  -- (*portmanteau/match.finder).longest
instance : FuncOk Try.prog 44 := FuncOk.of Try.f44 Try.func44 (by kernel_rfl) rfl  -- portmanteau/lz.put
instance : FuncOk Try.prog 45 := FuncOk.of Try.f45 Try.func45 (by kernel_rfl) rfl  -- slices.Clone[[]byte,byte]
instance : FuncOk Try.prog 46 := FuncOk.of Try.f46 Try.func46 (by kernel_rfl) rfl  -- slices.ContainsFunc[[]int,int]
instance : FuncOk Try.prog 47 := FuncOk.of Try.f47 Try.func47 (by kernel_rfl) rfl  -- portmanteau/lens.Runs$1
instance : FuncOk Try.prog 48 := FuncOk.of Try.f48 Try.func48 (by kernel_rfl) rfl  -- portmanteau/lens.run
instance : FuncOk Try.prog 49 := FuncOk.of Try.f49 Try.func49 (by kernel_rfl) rfl  -- portmanteau/lens.extra
instance : FuncOk Try.prog 50 := FuncOk.of Try.f50 Try.func50 (by kernel_rfl) rfl  -- (*portmanteau/match.finder).alike
instance : FuncOk Try.prog 51 := FuncOk.of Try.f51 Try.func51 (by kernel_rfl) rfl  -- slices.IndexFunc[[]int,int]
end Go.Proofs.Ytcibdcfdchpnpaa.X
