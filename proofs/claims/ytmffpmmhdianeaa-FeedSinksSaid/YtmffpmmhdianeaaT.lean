/- What the types and functions of this translation are: closed facts of the loaded program, by the kernel. Nothing is assumed. -/
import Derived.Test.YtmffpmmhdianeaaRows
import Derived.Test.YtmffpmmhdianeaaX3
import Derived.KernelRfl
namespace Go.Proofs.Ytmffpmmhdianeaa.X
open Go
theorem Sz.of {P : Program} {t : TypeId} {s b : Nat} {z : Value} (h : ((P.info? t).map fun i => (i.size, i.bytes, i.zero)) = some (s, b, some z)) : Sz P t s b z := by
  cases hi : P.info? t with
  | none => rw [hi] at h; cases h
  | some i => rw [hi] at h; simp only [Option.map_some, Option.some.injEq, Prod.mk.injEq] at h; exact ⟨i, hi, h.1, h.2.1, h.2.2⟩
theorem OneTy.of {P : Program} {t : TypeId} {d : TypeDesc} (hd : P.underlying t = some d) (h : isOne d = true) (hs : (P.info? t).map (·.size) = some 1) : OneTy P t := by
  cases hi : P.info? t with
  | none => rw [hi] at hs; cases hs
  | some i => rw [hi] at hs; simp only [Option.map_some, Option.some.injEq] at hs; exact ⟨d, hd, h, i, hi, hs⟩
def fieldB (P : Program) (s f : Nat) : Option (Nat × Bool) := match P.underlying s with
  | some (.struct fs) => match fs[f]? with
    | some fd => (P.info? fd.type).map fun i => (fd.offset, i.size != 0)
    | none => none
  | _ => none
theorem FieldOk.of {P : Program} {s f off : Nat} (h : fieldB P s f = some (off, true)) : FieldOk P s f off := by
  unfold fieldB at h
  split at h
  · rename_i fs hfs
    split at h
    · rename_i fd hfd
      cases hi : P.info? fd.type with
      | none => rw [hi] at h; cases h
      | some i =>
        rw [hi] at h
        simp only [Option.map_some, Option.some.injEq, Prod.mk.injEq, bne_iff_ne] at h
        exact ⟨fs, fd, i, hfs, hfd, h.1, hi, h.2⟩
    · cases h
  · cases h
theorem FuncOk.of {P : Program} {f : FuncId} (fn : Func) (h : P.funcs[f]? = some fn) (h1 : (fn.name == "runtime.NumGoroutine") = false) (h2 : fn.body.isNone = false) : FuncOk P f := ⟨fn, h, h1, h2⟩

instance : Sz Try.prog 1 1 8 (.nilFunc) := Sz.of (by kernel_rfl)
instance : UTy Try.prog 2 (.int .i64) := ⟨by kernel_rfl⟩
instance : OneTy Try.prog 2 := OneTy.of (d := .int .i64) (by kernel_rfl) rfl (by kernel_rfl)
instance : Sz Try.prog 2 1 8 (.int .i64 0) := Sz.of (by kernel_rfl)
instance : UTy Try.prog 3 (.int .i64) := ⟨by kernel_rfl⟩
instance : OneTy Try.prog 3 := OneTy.of (d := .int .i64) (by kernel_rfl) rfl (by kernel_rfl)
instance : Sz Try.prog 3 1 8 (.int .i64 0) := Sz.of (by kernel_rfl)
instance : UTy Try.prog 4 (.bool) := ⟨by kernel_rfl⟩
instance : OneTy Try.prog 4 := OneTy.of (d := .bool) (by kernel_rfl) rfl (by kernel_rfl)
instance : Sz Try.prog 4 1 1 (.bool false) := Sz.of (by kernel_rfl)
instance : UTy Try.prog 5 (.int .u8) := ⟨by kernel_rfl⟩
instance : OneTy Try.prog 5 := OneTy.of (d := .int .u8) (by kernel_rfl) rfl (by kernel_rfl)
instance : Sz Try.prog 5 1 1 (.int .u8 0) := Sz.of (by kernel_rfl)
instance : UTy Try.prog 6 (.int .u8) := ⟨by kernel_rfl⟩
instance : OneTy Try.prog 6 := OneTy.of (d := .int .u8) (by kernel_rfl) rfl (by kernel_rfl)
instance : Sz Try.prog 6 1 1 (.int .u8 0) := Sz.of (by kernel_rfl)
instance : Sz Try.prog 7 4 24 (.agg #[.int .i64 0, .int .i64 0, .bool false, .int .u8 0]) := Sz.of (by kernel_rfl)
instance : Bld Try.prog 7 [(0, 1), (1, 1), (2, 1), (3, 1)] [.int .i64 0, .int .i64 0, .bool false, .int .u8 0] := Bld.of (by kernel_rfl)
instance : FieldOk Try.prog 7 0 0 := FieldOk.of (by kernel_rfl)
instance : FieldOk Try.prog 7 1 1 := FieldOk.of (by kernel_rfl)
instance : FieldOk Try.prog 7 2 2 := FieldOk.of (by kernel_rfl)
instance : FieldOk Try.prog 7 3 3 := FieldOk.of (by kernel_rfl)
instance : Sz Try.prog 8 4 24 (.agg #[.int .i64 0, .int .i64 0, .bool false, .int .u8 0]) := Sz.of (by kernel_rfl)
instance : Bld Try.prog 8 [(0, 1), (1, 1), (2, 1), (3, 1)] [.int .i64 0, .int .i64 0, .bool false, .int .u8 0] := Bld.of (by kernel_rfl)
instance : FieldOk Try.prog 8 0 0 := FieldOk.of (by kernel_rfl)
instance : FieldOk Try.prog 8 1 1 := FieldOk.of (by kernel_rfl)
instance : FieldOk Try.prog 8 2 2 := FieldOk.of (by kernel_rfl)
instance : FieldOk Try.prog 8 3 3 := FieldOk.of (by kernel_rfl)
instance : UTy Try.prog 9 (.string) := ⟨by kernel_rfl⟩
instance : OneTy Try.prog 9 := OneTy.of (d := .string) (by kernel_rfl) rfl (by kernel_rfl)
instance : Sz Try.prog 9 1 16 (.string ByteArray.empty) := Sz.of (by kernel_rfl)
instance : UTy Try.prog 10 (.string) := ⟨by kernel_rfl⟩
instance : OneTy Try.prog 10 := OneTy.of (d := .string) (by kernel_rfl) rfl (by kernel_rfl)
instance : Sz Try.prog 10 1 16 (.string ByteArray.empty) := Sz.of (by kernel_rfl)
instance : UTy Try.prog 11 (.string) := ⟨by kernel_rfl⟩
instance : OneTy Try.prog 11 := OneTy.of (d := .string) (by kernel_rfl) rfl (by kernel_rfl)
instance : Sz Try.prog 11 1 16 (.string ByteArray.empty) := Sz.of (by kernel_rfl)
instance : UTy Try.prog 12 (.int .u64) := ⟨by kernel_rfl⟩
instance : OneTy Try.prog 12 := OneTy.of (d := .int .u64) (by kernel_rfl) rfl (by kernel_rfl)
instance : Sz Try.prog 12 1 8 (.int .u64 0) := Sz.of (by kernel_rfl)
instance : Sz Try.prog 13 2 24 (.agg #[.string ByteArray.empty, .int .u64 0]) := Sz.of (by kernel_rfl)
instance : Bld Try.prog 13 [(0, 1), (1, 1)] [.string ByteArray.empty, .int .u64 0] := Bld.of (by kernel_rfl)
instance : FieldOk Try.prog 13 0 0 := FieldOk.of (by kernel_rfl)
instance : FieldOk Try.prog 13 1 1 := FieldOk.of (by kernel_rfl)
instance : Sz Try.prog 14 2 24 (.agg #[.string ByteArray.empty, .int .u64 0]) := Sz.of (by kernel_rfl)
instance : Bld Try.prog 14 [(0, 1), (1, 1)] [.string ByteArray.empty, .int .u64 0] := Bld.of (by kernel_rfl)
instance : FieldOk Try.prog 14 0 0 := FieldOk.of (by kernel_rfl)
instance : FieldOk Try.prog 14 1 1 := FieldOk.of (by kernel_rfl)
instance : UTy Try.prog 15 (.pointer 97) := ⟨by kernel_rfl⟩
instance : OneTy Try.prog 15 := OneTy.of (d := .pointer 97) (by kernel_rfl) rfl (by kernel_rfl)
instance : Sz Try.prog 15 1 8 (.pointer none) := Sz.of (by kernel_rfl)
instance : UTy Try.prog 16 (.pointer 100) := ⟨by kernel_rfl⟩
instance : OneTy Try.prog 16 := OneTy.of (d := .pointer 100) (by kernel_rfl) rfl (by kernel_rfl)
instance : Sz Try.prog 16 1 8 (.pointer none) := Sz.of (by kernel_rfl)
instance : UTy Try.prog 17 (.pointer 108) := ⟨by kernel_rfl⟩
instance : OneTy Try.prog 17 := OneTy.of (d := .pointer 108) (by kernel_rfl) rfl (by kernel_rfl)
instance : Sz Try.prog 17 1 8 (.pointer none) := Sz.of (by kernel_rfl)
instance : Sz Try.prog 18 1 8 (.agg #[.pointer none]) := Sz.of (by kernel_rfl)
instance : Bld Try.prog 18 [(0, 1)] [.pointer none] := Bld.of (by kernel_rfl)
instance : FieldOk Try.prog 18 0 0 := FieldOk.of (by kernel_rfl)
instance : Sz Try.prog 19 1 8 (.agg #[.pointer none]) := Sz.of (by kernel_rfl)
instance : Bld Try.prog 19 [(0, 1)] [.pointer none] := Bld.of (by kernel_rfl)
instance : FieldOk Try.prog 19 0 0 := FieldOk.of (by kernel_rfl)
instance : Sz Try.prog 20 1 16 (.nilIface) := Sz.of (by kernel_rfl)
instance : UTy Try.prog 21 (.int .i32) := ⟨by kernel_rfl⟩
instance : OneTy Try.prog 21 := OneTy.of (d := .int .i32) (by kernel_rfl) rfl (by kernel_rfl)
instance : Sz Try.prog 21 1 4 (.int .i32 0) := Sz.of (by kernel_rfl)
instance : UTy Try.prog 22 (.slice 5) := ⟨by kernel_rfl⟩
instance : OneTy Try.prog 22 := OneTy.of (d := .slice 5) (by kernel_rfl) rfl (by kernel_rfl)
instance : Sz Try.prog 22 1 24 (.slice none 0 0) := Sz.of (by kernel_rfl)
instance : UTy Try.prog 23 (.pointer 81) := ⟨by kernel_rfl⟩
instance : OneTy Try.prog 23 := OneTy.of (d := .pointer 81) (by kernel_rfl) rfl (by kernel_rfl)
instance : Sz Try.prog 23 1 8 (.pointer none) := Sz.of (by kernel_rfl)
instance : Sz Try.prog 24 1 8 (.nilFunc) := Sz.of (by kernel_rfl)
instance : Sz Try.prog 25 1 8 (.nilFunc) := Sz.of (by kernel_rfl)
instance : UTy Try.prog 26 (.int .u32) := ⟨by kernel_rfl⟩
instance : OneTy Try.prog 26 := OneTy.of (d := .int .u32) (by kernel_rfl) rfl (by kernel_rfl)
instance : Sz Try.prog 26 1 4 (.int .u32 0) := Sz.of (by kernel_rfl)
instance : Sz Try.prog 27 1 8 (.nilFunc) := Sz.of (by kernel_rfl)
instance : Sz Try.prog 28 1 8 (.nilFunc) := Sz.of (by kernel_rfl)
instance : UTy Try.prog 29 (.slice 22) := ⟨by kernel_rfl⟩
instance : OneTy Try.prog 29 := OneTy.of (d := .slice 22) (by kernel_rfl) rfl (by kernel_rfl)
instance : Sz Try.prog 29 1 24 (.slice none 0 0) := Sz.of (by kernel_rfl)
instance : Sz Try.prog 30 1 8 (.nilFunc) := Sz.of (by kernel_rfl)
instance : Sz Try.prog 31 1 8 (.nilFunc) := Sz.of (by kernel_rfl)
instance : Sz Try.prog 32 1 8 (.nilFunc) := Sz.of (by kernel_rfl)
instance : Sz Try.prog 33 1 8 (.nilFunc) := Sz.of (by kernel_rfl)
instance : Sz Try.prog 34 1 8 (.nilFunc) := Sz.of (by kernel_rfl)
instance : UTy Try.prog 35 (.slice 3) := ⟨by kernel_rfl⟩
instance : OneTy Try.prog 35 := OneTy.of (d := .slice 3) (by kernel_rfl) rfl (by kernel_rfl)
instance : Sz Try.prog 35 1 24 (.slice none 0 0) := Sz.of (by kernel_rfl)
instance : UTy Try.prog 36 (.pointer 86) := ⟨by kernel_rfl⟩
instance : OneTy Try.prog 36 := OneTy.of (d := .pointer 86) (by kernel_rfl) rfl (by kernel_rfl)
instance : Sz Try.prog 36 1 8 (.pointer none) := Sz.of (by kernel_rfl)
instance : Sz Try.prog 37 1 8 (.nilFunc) := Sz.of (by kernel_rfl)
instance : UTy Try.prog 38 (.slice 35) := ⟨by kernel_rfl⟩
instance : OneTy Try.prog 38 := OneTy.of (d := .slice 35) (by kernel_rfl) rfl (by kernel_rfl)
instance : Sz Try.prog 38 1 24 (.slice none 0 0) := Sz.of (by kernel_rfl)
instance : Sz Try.prog 40 1 8 (.nilFunc) := Sz.of (by kernel_rfl)
instance : Sz Try.prog 41 1 8 (.nilFunc) := Sz.of (by kernel_rfl)
instance : Sz Try.prog 42 1 8 (.nilFunc) := Sz.of (by kernel_rfl)
instance : Sz Try.prog 43 1 8 (.nilFunc) := Sz.of (by kernel_rfl)
instance : UTy Try.prog 44 (.pointer 88) := ⟨by kernel_rfl⟩
instance : OneTy Try.prog 44 := OneTy.of (d := .pointer 88) (by kernel_rfl) rfl (by kernel_rfl)
instance : Sz Try.prog 44 1 8 (.pointer none) := Sz.of (by kernel_rfl)
instance : Sz Try.prog 45 1 8 (.nilFunc) := Sz.of (by kernel_rfl)
instance : Sz Try.prog 47 1 8 (.nilFunc) := Sz.of (by kernel_rfl)
instance : Sz Try.prog 49 1 8 (.nilFunc) := Sz.of (by kernel_rfl)
instance : UTy Try.prog 50 (.slice 54) := ⟨by kernel_rfl⟩
instance : OneTy Try.prog 50 := OneTy.of (d := .slice 54) (by kernel_rfl) rfl (by kernel_rfl)
instance : Sz Try.prog 50 1 24 (.slice none 0 0) := Sz.of (by kernel_rfl)
instance : UTy Try.prog 51 (.pointer 90) := ⟨by kernel_rfl⟩
instance : OneTy Try.prog 51 := OneTy.of (d := .pointer 90) (by kernel_rfl) rfl (by kernel_rfl)
instance : Sz Try.prog 51 1 8 (.pointer none) := Sz.of (by kernel_rfl)
instance : Sz Try.prog 52 1 8 (.nilFunc) := Sz.of (by kernel_rfl)
instance : Sz Try.prog 53 3 24 (.agg #[.int .i64 0, .int .i64 0, .int .u32 0]) := Sz.of (by kernel_rfl)
instance : Bld Try.prog 53 [(0, 1), (1, 1), (2, 1)] [.int .i64 0, .int .i64 0, .int .u32 0] := Bld.of (by kernel_rfl)
instance : FieldOk Try.prog 53 0 0 := FieldOk.of (by kernel_rfl)
instance : FieldOk Try.prog 53 1 1 := FieldOk.of (by kernel_rfl)
instance : FieldOk Try.prog 53 2 2 := FieldOk.of (by kernel_rfl)
instance : Sz Try.prog 54 3 24 (.agg #[.int .i64 0, .int .i64 0, .int .u32 0]) := Sz.of (by kernel_rfl)
instance : Bld Try.prog 54 [(0, 1), (1, 1), (2, 1)] [.int .i64 0, .int .i64 0, .int .u32 0] := Bld.of (by kernel_rfl)
instance : FieldOk Try.prog 54 0 0 := FieldOk.of (by kernel_rfl)
instance : FieldOk Try.prog 54 1 1 := FieldOk.of (by kernel_rfl)
instance : FieldOk Try.prog 54 2 2 := FieldOk.of (by kernel_rfl)
instance : Sz Try.prog 55 1 8 (.nilFunc) := Sz.of (by kernel_rfl)
instance : Sz Try.prog 56 1 8 (.nilFunc) := Sz.of (by kernel_rfl)
instance : UTy Try.prog 57 (.int .u64) := ⟨by kernel_rfl⟩
instance : OneTy Try.prog 57 := OneTy.of (d := .int .u64) (by kernel_rfl) rfl (by kernel_rfl)
instance : Sz Try.prog 57 1 8 (.int .u64 0) := Sz.of (by kernel_rfl)
instance : Sz Try.prog 58 1 8 (.nilFunc) := Sz.of (by kernel_rfl)
instance : Sz Try.prog 59 1 8 (.nilFunc) := Sz.of (by kernel_rfl)
instance : Sz Try.prog 60 1 8 (.nilFunc) := Sz.of (by kernel_rfl)
instance : UTy Try.prog 61 (.pointer 92) := ⟨by kernel_rfl⟩
instance : OneTy Try.prog 61 := OneTy.of (d := .pointer 92) (by kernel_rfl) rfl (by kernel_rfl)
instance : Sz Try.prog 61 1 8 (.pointer none) := Sz.of (by kernel_rfl)
instance : Sz Try.prog 62 1 8 (.nilFunc) := Sz.of (by kernel_rfl)
instance : UTy Try.prog 63 (.pointer 94) := ⟨by kernel_rfl⟩
instance : OneTy Try.prog 63 := OneTy.of (d := .pointer 94) (by kernel_rfl) rfl (by kernel_rfl)
instance : Sz Try.prog 63 1 8 (.pointer none) := Sz.of (by kernel_rfl)
instance : Sz Try.prog 64 1 8 (.nilFunc) := Sz.of (by kernel_rfl)
instance : Sz Try.prog 65 1 16 (.nilIface) := Sz.of (by kernel_rfl)
instance : Sz Try.prog 66 1 16 (.nilIface) := Sz.of (by kernel_rfl)
instance : Sz Try.prog 67 1 8 (.nilFunc) := Sz.of (by kernel_rfl)
instance : Sz Try.prog 68 1 8 (.nilFunc) := Sz.of (by kernel_rfl)
instance : UTy Try.prog 69 (.pointer 71) := ⟨by kernel_rfl⟩
instance : OneTy Try.prog 69 := OneTy.of (d := .pointer 71) (by kernel_rfl) rfl (by kernel_rfl)
instance : Sz Try.prog 69 1 8 (.pointer none) := Sz.of (by kernel_rfl)
instance : Sz Try.prog 70 2 32 (.agg #[.slice none 0 0, .int .i64 0]) := Sz.of (by kernel_rfl)
instance : Bld Try.prog 70 [(0, 1), (1, 1)] [.slice none 0 0, .int .i64 0] := Bld.of (by kernel_rfl)
instance : FieldOk Try.prog 70 0 0 := FieldOk.of (by kernel_rfl)
instance : FieldOk Try.prog 70 1 1 := FieldOk.of (by kernel_rfl)
instance : Sz Try.prog 71 2 32 (.agg #[.slice none 0 0, .int .i64 0]) := Sz.of (by kernel_rfl)
instance : Bld Try.prog 71 [(0, 1), (1, 1)] [.slice none 0 0, .int .i64 0] := Bld.of (by kernel_rfl)
instance : FieldOk Try.prog 71 0 0 := FieldOk.of (by kernel_rfl)
instance : FieldOk Try.prog 71 1 1 := FieldOk.of (by kernel_rfl)
instance : UTy Try.prog 72 (.pointer 74) := ⟨by kernel_rfl⟩
instance : OneTy Try.prog 72 := OneTy.of (d := .pointer 74) (by kernel_rfl) rfl (by kernel_rfl)
instance : Sz Try.prog 72 1 8 (.pointer none) := Sz.of (by kernel_rfl)
instance : Sz Try.prog 73 2 24 (.agg #[.string ByteArray.empty, .int .i64 0]) := Sz.of (by kernel_rfl)
instance : Bld Try.prog 73 [(0, 1), (1, 1)] [.string ByteArray.empty, .int .i64 0] := Bld.of (by kernel_rfl)
instance : FieldOk Try.prog 73 0 0 := FieldOk.of (by kernel_rfl)
instance : FieldOk Try.prog 73 1 1 := FieldOk.of (by kernel_rfl)
instance : Sz Try.prog 74 2 24 (.agg #[.string ByteArray.empty, .int .i64 0]) := Sz.of (by kernel_rfl)
instance : Bld Try.prog 74 [(0, 1), (1, 1)] [.string ByteArray.empty, .int .i64 0] := Bld.of (by kernel_rfl)
instance : FieldOk Try.prog 74 0 0 := FieldOk.of (by kernel_rfl)
instance : FieldOk Try.prog 74 1 1 := FieldOk.of (by kernel_rfl)
instance : Sz Try.prog 75 1 8 (.nilFunc) := Sz.of (by kernel_rfl)
instance : Sz Try.prog 77 1 8 (.nilFunc) := Sz.of (by kernel_rfl)
instance : Sz Try.prog 78 1 8 (.nilFunc) := Sz.of (by kernel_rfl)
instance : UTy Try.prog 79 (.slice 26) := ⟨by kernel_rfl⟩
instance : OneTy Try.prog 79 := OneTy.of (d := .slice 26) (by kernel_rfl) rfl (by kernel_rfl)
instance : Sz Try.prog 79 1 24 (.slice none 0 0) := Sz.of (by kernel_rfl)
instance : Sz Try.prog 80 1 24 (.agg #[.slice none 0 0]) := Sz.of (by kernel_rfl)
instance : Bld Try.prog 80 [(0, 1)] [.slice none 0 0] := Bld.of (by kernel_rfl)
instance : FieldOk Try.prog 80 0 0 := FieldOk.of (by kernel_rfl)
instance : Sz Try.prog 81 1 24 (.agg #[.slice none 0 0]) := Sz.of (by kernel_rfl)
instance : Bld Try.prog 81 [(0, 1)] [.slice none 0 0] := Bld.of (by kernel_rfl)
instance : FieldOk Try.prog 81 0 0 := FieldOk.of (by kernel_rfl)
instance : UTy Try.prog 82 (.int .u64) := ⟨by kernel_rfl⟩
instance : OneTy Try.prog 82 := OneTy.of (d := .int .u64) (by kernel_rfl) rfl (by kernel_rfl)
instance : Sz Try.prog 82 1 8 (.int .u64 0) := Sz.of (by kernel_rfl)
instance : Sz Try.prog 83 1 8 (.nilFunc) := Sz.of (by kernel_rfl)
instance : Sz Try.prog 84 1 8 (.nilFunc) := Sz.of (by kernel_rfl)
instance : Sz Try.prog 85 4 64 (.agg #[.slice none 0 0, .slice none 0 0, .int .i64 0, .int .i64 0]) := Sz.of (by kernel_rfl)
instance : Bld Try.prog 85 [(0, 1), (1, 1), (2, 1), (3, 1)] [.slice none 0 0, .slice none 0 0, .int .i64 0, .int .i64 0] := Bld.of (by kernel_rfl)
instance : FieldOk Try.prog 85 0 0 := FieldOk.of (by kernel_rfl)
instance : FieldOk Try.prog 85 1 1 := FieldOk.of (by kernel_rfl)
instance : FieldOk Try.prog 85 2 2 := FieldOk.of (by kernel_rfl)
instance : FieldOk Try.prog 85 3 3 := FieldOk.of (by kernel_rfl)
instance : Sz Try.prog 86 4 64 (.agg #[.slice none 0 0, .slice none 0 0, .int .i64 0, .int .i64 0]) := Sz.of (by kernel_rfl)
instance : Bld Try.prog 86 [(0, 1), (1, 1), (2, 1), (3, 1)] [.slice none 0 0, .slice none 0 0, .int .i64 0, .int .i64 0] := Bld.of (by kernel_rfl)
instance : FieldOk Try.prog 86 0 0 := FieldOk.of (by kernel_rfl)
instance : FieldOk Try.prog 86 1 1 := FieldOk.of (by kernel_rfl)
instance : FieldOk Try.prog 86 2 2 := FieldOk.of (by kernel_rfl)
instance : FieldOk Try.prog 86 3 3 := FieldOk.of (by kernel_rfl)
instance : Sz Try.prog 87 2 32 (.agg #[.slice none 0 0, .int .i64 0]) := Sz.of (by kernel_rfl)
instance : Bld Try.prog 87 [(0, 1), (1, 1)] [.slice none 0 0, .int .i64 0] := Bld.of (by kernel_rfl)
instance : FieldOk Try.prog 87 0 0 := FieldOk.of (by kernel_rfl)
instance : FieldOk Try.prog 87 1 1 := FieldOk.of (by kernel_rfl)
instance : Sz Try.prog 88 2 32 (.agg #[.slice none 0 0, .int .i64 0]) := Sz.of (by kernel_rfl)
instance : Bld Try.prog 88 [(0, 1), (1, 1)] [.slice none 0 0, .int .i64 0] := Bld.of (by kernel_rfl)
instance : FieldOk Try.prog 88 0 0 := FieldOk.of (by kernel_rfl)
instance : FieldOk Try.prog 88 1 1 := FieldOk.of (by kernel_rfl)
instance : Sz Try.prog 89 2 32 (.agg #[.slice none 0 0, .int .i64 0]) := Sz.of (by kernel_rfl)
instance : Bld Try.prog 89 [(0, 1), (1, 1)] [.slice none 0 0, .int .i64 0] := Bld.of (by kernel_rfl)
instance : FieldOk Try.prog 89 0 0 := FieldOk.of (by kernel_rfl)
instance : FieldOk Try.prog 89 1 1 := FieldOk.of (by kernel_rfl)
instance : Sz Try.prog 90 2 32 (.agg #[.slice none 0 0, .int .i64 0]) := Sz.of (by kernel_rfl)
instance : Bld Try.prog 90 [(0, 1), (1, 1)] [.slice none 0 0, .int .i64 0] := Bld.of (by kernel_rfl)
instance : FieldOk Try.prog 90 0 0 := FieldOk.of (by kernel_rfl)
instance : FieldOk Try.prog 90 1 1 := FieldOk.of (by kernel_rfl)
instance : Sz Try.prog 91 2 32 (.agg #[.slice none 0 0, .int .i64 0]) := Sz.of (by kernel_rfl)
instance : Bld Try.prog 91 [(0, 1), (1, 1)] [.slice none 0 0, .int .i64 0] := Bld.of (by kernel_rfl)
instance : FieldOk Try.prog 91 0 0 := FieldOk.of (by kernel_rfl)
instance : FieldOk Try.prog 91 1 1 := FieldOk.of (by kernel_rfl)
instance : Sz Try.prog 92 2 32 (.agg #[.slice none 0 0, .int .i64 0]) := Sz.of (by kernel_rfl)
instance : Bld Try.prog 92 [(0, 1), (1, 1)] [.slice none 0 0, .int .i64 0] := Bld.of (by kernel_rfl)
instance : FieldOk Try.prog 92 0 0 := FieldOk.of (by kernel_rfl)
instance : FieldOk Try.prog 92 1 1 := FieldOk.of (by kernel_rfl)
instance : Sz Try.prog 93 2 16 (.agg #[.pointer none, .int .i64 0]) := Sz.of (by kernel_rfl)
instance : Bld Try.prog 93 [(0, 1), (1, 1)] [.pointer none, .int .i64 0] := Bld.of (by kernel_rfl)
instance : FieldOk Try.prog 93 0 0 := FieldOk.of (by kernel_rfl)
instance : FieldOk Try.prog 93 1 1 := FieldOk.of (by kernel_rfl)
instance : Sz Try.prog 94 2 16 (.agg #[.pointer none, .int .i64 0]) := Sz.of (by kernel_rfl)
instance : Bld Try.prog 94 [(0, 1), (1, 1)] [.pointer none, .int .i64 0] := Bld.of (by kernel_rfl)
instance : FieldOk Try.prog 94 0 0 := FieldOk.of (by kernel_rfl)
instance : FieldOk Try.prog 94 1 1 := FieldOk.of (by kernel_rfl)
instance : Sz Try.prog 95 1 8 (.nilFunc) := Sz.of (by kernel_rfl)
instance : Sz Try.prog 96 4 40 (.agg #[.pointer none, .pointer none, .pointer none, .string ByteArray.empty]) := Sz.of (by kernel_rfl)
instance : Bld Try.prog 96 [(0, 1), (1, 1), (2, 1), (3, 1)] [.pointer none, .pointer none, .pointer none, .string ByteArray.empty] := Bld.of (by kernel_rfl)
instance : FieldOk Try.prog 96 0 0 := FieldOk.of (by kernel_rfl)
instance : FieldOk Try.prog 96 1 1 := FieldOk.of (by kernel_rfl)
instance : FieldOk Try.prog 96 2 2 := FieldOk.of (by kernel_rfl)
instance : FieldOk Try.prog 96 3 3 := FieldOk.of (by kernel_rfl)
instance : Sz Try.prog 97 4 40 (.agg #[.pointer none, .pointer none, .pointer none, .string ByteArray.empty]) := Sz.of (by kernel_rfl)
instance : Bld Try.prog 97 [(0, 1), (1, 1), (2, 1), (3, 1)] [.pointer none, .pointer none, .pointer none, .string ByteArray.empty] := Bld.of (by kernel_rfl)
instance : FieldOk Try.prog 97 0 0 := FieldOk.of (by kernel_rfl)
instance : FieldOk Try.prog 97 1 1 := FieldOk.of (by kernel_rfl)
instance : FieldOk Try.prog 97 2 2 := FieldOk.of (by kernel_rfl)
instance : FieldOk Try.prog 97 3 3 := FieldOk.of (by kernel_rfl)
instance : Sz Try.prog 98 0 0 (.agg #[]) := Sz.of (by kernel_rfl)
instance : Sz Try.prog 99 0 0 (.agg #[]) := Sz.of (by kernel_rfl)
instance : Bld Try.prog 99 [(0, 0)] [] := Bld.of (by kernel_rfl)
instance : Sz Try.prog 100 0 0 (.agg #[]) := Sz.of (by kernel_rfl)
instance : Bld Try.prog 100 [(0, 0)] [] := Bld.of (by kernel_rfl)
instance : UTy Try.prog 101 (.int .u8) := ⟨by kernel_rfl⟩
instance : OneTy Try.prog 101 := OneTy.of (d := .int .u8) (by kernel_rfl) rfl (by kernel_rfl)
instance : Sz Try.prog 101 1 1 (.int .u8 0) := Sz.of (by kernel_rfl)
instance : UTy Try.prog 102 (.int .u8) := ⟨by kernel_rfl⟩
instance : OneTy Try.prog 102 := OneTy.of (d := .int .u8) (by kernel_rfl) rfl (by kernel_rfl)
instance : Sz Try.prog 102 1 1 (.int .u8 0) := Sz.of (by kernel_rfl)
instance : Sz Try.prog 103 1 8 (.nilFunc) := Sz.of (by kernel_rfl)
instance : UTy Try.prog 104 (.pointer 5) := ⟨by kernel_rfl⟩
instance : OneTy Try.prog 104 := OneTy.of (d := .pointer 5) (by kernel_rfl) rfl (by kernel_rfl)
instance : Sz Try.prog 104 1 8 (.pointer none) := Sz.of (by kernel_rfl)
instance : UTy Try.prog 105 (.int .i32) := ⟨by kernel_rfl⟩
instance : OneTy Try.prog 105 := OneTy.of (d := .int .i32) (by kernel_rfl) rfl (by kernel_rfl)
instance : Sz Try.prog 105 1 4 (.int .i32 0) := Sz.of (by kernel_rfl)
instance : UTy Try.prog 106 (.int .i32) := ⟨by kernel_rfl⟩
instance : OneTy Try.prog 106 := OneTy.of (d := .int .i32) (by kernel_rfl) rfl (by kernel_rfl)
instance : Sz Try.prog 106 1 4 (.int .i32 0) := Sz.of (by kernel_rfl)
instance : Sz Try.prog 107 11 48 (.agg #[.int .u64 0, .int .u64 0, .int .u32 0, .int .u8 0, .int .u8 0, .int .u8 0, .int .u8 0, .nilFunc, .pointer none, .int .i32 0, .int .i32 0]) := Sz.of (by kernel_rfl)
instance : Bld Try.prog 107 [(0, 1), (1, 1), (2, 1), (3, 1), (4, 1), (5, 1), (6, 1), (7, 1), (8, 1), (9, 1), (10, 1)] [.int .u64 0, .int .u64 0, .int .u32 0, .int .u8 0, .int .u8 0, .int .u8 0, .int .u8 0, .nilFunc, .pointer none, .int .i32 0, .int .i32 0] := Bld.of (by kernel_rfl)
instance : FieldOk Try.prog 107 0 0 := FieldOk.of (by kernel_rfl)
instance : FieldOk Try.prog 107 1 1 := FieldOk.of (by kernel_rfl)
instance : FieldOk Try.prog 107 2 2 := FieldOk.of (by kernel_rfl)
instance : FieldOk Try.prog 107 3 3 := FieldOk.of (by kernel_rfl)
instance : FieldOk Try.prog 107 4 4 := FieldOk.of (by kernel_rfl)
instance : FieldOk Try.prog 107 5 5 := FieldOk.of (by kernel_rfl)
instance : FieldOk Try.prog 107 6 6 := FieldOk.of (by kernel_rfl)
instance : FieldOk Try.prog 107 7 7 := FieldOk.of (by kernel_rfl)
instance : FieldOk Try.prog 107 8 8 := FieldOk.of (by kernel_rfl)
instance : FieldOk Try.prog 107 9 9 := FieldOk.of (by kernel_rfl)
instance : FieldOk Try.prog 107 10 10 := FieldOk.of (by kernel_rfl)
instance : Sz Try.prog 108 11 48 (.agg #[.int .u64 0, .int .u64 0, .int .u32 0, .int .u8 0, .int .u8 0, .int .u8 0, .int .u8 0, .nilFunc, .pointer none, .int .i32 0, .int .i32 0]) := Sz.of (by kernel_rfl)
instance : Bld Try.prog 108 [(0, 1), (1, 1), (2, 1), (3, 1), (4, 1), (5, 1), (6, 1), (7, 1), (8, 1), (9, 1), (10, 1)] [.int .u64 0, .int .u64 0, .int .u32 0, .int .u8 0, .int .u8 0, .int .u8 0, .int .u8 0, .nilFunc, .pointer none, .int .i32 0, .int .i32 0] := Bld.of (by kernel_rfl)
instance : FieldOk Try.prog 108 0 0 := FieldOk.of (by kernel_rfl)
instance : FieldOk Try.prog 108 1 1 := FieldOk.of (by kernel_rfl)
instance : FieldOk Try.prog 108 2 2 := FieldOk.of (by kernel_rfl)
instance : FieldOk Try.prog 108 3 3 := FieldOk.of (by kernel_rfl)
instance : FieldOk Try.prog 108 4 4 := FieldOk.of (by kernel_rfl)
instance : FieldOk Try.prog 108 5 5 := FieldOk.of (by kernel_rfl)
instance : FieldOk Try.prog 108 6 6 := FieldOk.of (by kernel_rfl)
instance : FieldOk Try.prog 108 7 7 := FieldOk.of (by kernel_rfl)
instance : FieldOk Try.prog 108 8 8 := FieldOk.of (by kernel_rfl)
instance : FieldOk Try.prog 108 9 9 := FieldOk.of (by kernel_rfl)
instance : FieldOk Try.prog 108 10 10 := FieldOk.of (by kernel_rfl)
instance : FuncOk Try.prog 3 := FuncOk.of Try.f3 Try.func3 (by kernel_rfl) rfl  -- portmanteau/portmanteaulaw2.CrcSums
instance : FuncOk Try.prog 4 := FuncOk.of Try.f4 Try.func4 (by kernel_rfl) rfl  -- portmanteau/portmanteaulaw2.CrcParts
instance : FuncOk Try.prog 5 := FuncOk.of Try.f5 Try.func5 (by kernel_rfl) rfl  -- portmanteau/portmanteaulaw2.CrcTells
instance : FuncOk Try.prog 6 := FuncOk.of Try.f6 Try.func6 (by kernel_rfl) rfl  -- portmanteau/portmanteaulaw2.CrcBits
instance : FuncOk Try.prog 7 := FuncOk.of Try.f7 Try.func7 (by kernel_rfl) rfl  -- portmanteau/portmanteaulaw3.FeedJoin
instance : FuncOk Try.prog 8 := FuncOk.of Try.f8 Try.func8 (by kernel_rfl) rfl  -- portmanteau/portmanteaulaw3.FeedPieces
instance : FuncOk Try.prog 9 := FuncOk.of Try.f9 Try.func9 (by kernel_rfl) rfl  -- portmanteau/portmanteaulaw1.BitsPeek
instance : FuncOk Try.prog 10 := FuncOk.of Try.f10 Try.func10 (by kernel_rfl) rfl  -- portmanteau/portmanteaulaw1.BitsBack
instance : FuncOk Try.prog 11 := FuncOk.of Try.f11 Try.func11 (by kernel_rfl) rfl  -- portmanteau/portmanteaulaw1.BitsParts
instance : FuncOk Try.prog 12 := FuncOk.of Try.f12 Try.func12 (by kernel_rfl) rfl  -- portmanteau/portmanteaulaw3.FeedSinks
instance : FuncOk Try.prog 13 := FuncOk.of Try.f13 Try.func13 (by kernel_rfl) rfl  -- portmanteau/portmanteaulaw1.BitsWrite
instance : FuncOk Try.prog 14 := FuncOk.of Try.f14 Try.func14 (by kernel_rfl) rfl  -- portmanteau/portmanteaulaw1.BitsRead
instance : FuncOk Try.prog 15 := FuncOk.of Try.f15 Try.func15 (by kernel_rfl) rfl  -- portmanteau/crc.NewTable
instance : FuncOk Try.prog 16 := FuncOk.of Try.f16 Try.func16 (by kernel_rfl) rfl  -- portmanteau/portmanteaulaw2.awake
instance : FuncOk Try.prog 17 := FuncOk.of Try.f17 Try.func17 (by kernel_rfl) rfl  -- (*portmanteau/crc.Table).Sum
instance : FuncOk Try.prog 18 := FuncOk.of Try.f18 Try.func18 (by kernel_rfl) rfl  -- (*portmanteau/crc.Table).Update
instance : FuncOk Try.prog 19 := FuncOk.of Try.f19 Try.func19 (by kernel_rfl) rfl  -- portmanteau/portmanteauref1.Update
instance : FuncOk Try.prog 20 := FuncOk.of Try.f20 Try.func20 (by kernel_rfl) rfl  -- portmanteau/portmanteaulaw3.awake
instance : FuncOk Try.prog 21 := FuncOk.of Try.f21 Try.func21 (by kernel_rfl) rfl  -- portmanteau/feed.NewSource
instance : FuncOk Try.prog 22 := FuncOk.of Try.f22 Try.func22 (by kernel_rfl) rfl  -- (*portmanteau/feed.Source).Next
instance : FuncOk Try.prog 23 := FuncOk.of Try.f23 Try.func23 (by kernel_rfl) rfl  -- (*portmanteau/feed.Source).At
instance : FuncOk Try.prog 24 := FuncOk.of Try.f24 Try.func24 (by kernel_rfl) rfl  -- portmanteau/portmanteaulaw1.awake
instance : FuncOk Try.prog 25 := FuncOk.of Try.f25 Try.func25 (by kernel_rfl) rfl  -- portmanteau/bits.NewReader
instance : FuncOk Try.prog 26 := FuncOk.of Try.f26 Try.func26 (by kernel_rfl) rfl  -- (*portmanteau/bits.Reader).Take
instance : FuncOk Try.prog 27 := FuncOk.of Try.f27 Try.func27 (by kernel_rfl) rfl  -- (*portmanteau/bits.Reader).Left
instance : FuncOk Try.prog 28 := FuncOk.of Try.f28 Try.func28 (by kernel_rfl) rfl  -- (*portmanteau/bits.Reader).Peek
instance : FuncOk Try.prog 29 := FuncOk.of Try.f29 Try.func29 (by kernel_rfl) rfl  -- portmanteau/bits.NewWriter
instance : FuncOk Try.prog 30 := FuncOk.of Try.f30 Try.func30 (by kernel_rfl) rfl  -- (*portmanteau/bits.Writer).Put
instance : FuncOk Try.prog 31 := FuncOk.of Try.f31 Try.func31 (by kernel_rfl) rfl  -- (*portmanteau/bits.Writer).Bytes
instance : FuncOk Try.prog 32 := FuncOk.of Try.f32 Try.func32 (by kernel_rfl) rfl  -- portmanteau/bits.Rev
instance : FuncOk Try.prog 33 := FuncOk.of Try.f33 Try.func33 (by kernel_rfl) rfl  -- (*portmanteau/bits.Writer).Len
instance : FuncOk Try.prog 34 := FuncOk.of Try.f34 Try.func34 (by kernel_rfl) rfl  -- portmanteau/feed.NewSink
instance : FuncOk Try.prog 35 := FuncOk.of Try.f35 Try.func35 (by kernel_rfl) rfl  -- portmanteau/feed.NewCounter
instance : FuncOk Try.prog 36 := FuncOk.of Try.f36 Try.func36 (by kernel_rfl) rfl  -- (*portmanteau/feed.Sink).Write
instance : FuncOk Try.prog 37 := FuncOk.of Try.f37 Try.func37 (by kernel_rfl) rfl  -- (*portmanteau/feed.Sink).Bytes
instance : FuncOk Try.prog 38 := FuncOk.of Try.f38 Try.func38 (by kernel_rfl) rfl  -- (*portmanteau/feed.Sink).Len
instance : FuncOk Try.prog 39 := FuncOk.of Try.f39 Try.func39 (by kernel_rfl) rfl  -- (*portmanteau/feed.Counter).Writes
instance : FuncOk Try.prog 40 := FuncOk.of Try.f40 Try.func40 (by kernel_rfl) rfl  -- (*portmanteau/feed.Sink).Left
instance : FuncOk Try.prog 41 := FuncOk.of Try.f41 Try.func41 (by kernel_rfl) rfl  -- (*portmanteau/portmanteauref1.Out).Put
instance : FuncOk Try.prog 42 := FuncOk.of Try.f42 Try.func42 (by kernel_rfl) rfl  -- (*portmanteau/bits.Writer).Code
instance : FuncOk Try.prog 43 := FuncOk.of Try.f43 Try.func43 (by kernel_rfl) rfl  -- portmanteau/portmanteauref1.Rev
instance : FuncOk Try.prog 44 := FuncOk.of Try.f44 Try.func44 (by kernel_rfl) rfl  -- (*portmanteau/bits.Writer).Align
instance : FuncOk Try.prog 45 := FuncOk.of Try.f45 Try.func45 (by kernel_rfl) rfl  -- (*portmanteau/portmanteauref1.Out).Align
instance : FuncOk Try.prog 46 := FuncOk.of Try.f46 Try.func46 (by kernel_rfl) rfl  -- (*portmanteau/portmanteauref1.Bits).Take
instance : FuncOk Try.prog 47 := FuncOk.of Try.f47 Try.func47 (by kernel_rfl) rfl  -- (*portmanteau/portmanteauref1.Bits).Peek
instance : FuncOk Try.prog 48 := FuncOk.of Try.f48 Try.func48 (by kernel_rfl) rfl  -- (*portmanteau/bits.Reader).Align
instance : FuncOk Try.prog 49 := FuncOk.of Try.f49 Try.func49 (by kernel_rfl) rfl  -- (*portmanteau/portmanteauref1.Bits).Align
instance : FuncOk Try.prog 50 := FuncOk.of Try.f50 Try.func50 (by kernel_rfl) rfl  -- (*portmanteau/bits.Reader).Bytes
instance : FuncOk Try.prog 51 := FuncOk.of Try.f51 Try.func51 (by kernel_rfl) rfl  -- (*portmanteau/portmanteauref1.Bits).Bytes
instance : FuncOk Try.prog 52 := FuncOk.of Try.f52 Try.func52 (by kernel_rfl) rfl  -- (*portmanteau/bits.Reader).At
instance : FuncOk Try.prog 53 := FuncOk.of Try.f53 Try.func53 (by kernel_rfl) rfl  -- (*portmanteau/portmanteauref1.Bits).Left
instance : FuncOk Try.prog 54 := FuncOk.of Try.f54 Try.func54 (by kernel_rfl) rfl  -- slices.Clone[[]byte,byte]
instance : FuncOk Try.prog 55 := FuncOk.of Try.f55 Try.func55 (by kernel_rfl) rfl  -- slices.Clone[[]int,int]
instance : FuncOk Try.prog 71 := FuncOk.of Try.f71 Try.func71 (by kernel_rfl) rfl  -- (*portmanteau/feed.Counter).Write
end Go.Proofs.Ytmffpmmhdianeaa.X
