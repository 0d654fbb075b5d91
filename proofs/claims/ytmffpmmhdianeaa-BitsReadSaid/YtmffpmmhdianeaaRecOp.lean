/- The operations of a script, as they came in. Nothing is assumed. -/
import Derived.Test.YtmffpmmhdianeaaOpenK
import Derived.Test.YtmffpmmhdianeaaT2
import Derived.Test.YtmffpmmhdianeaaMix
namespace Go.Proofs.Ytmffpmmhdianeaa.X
open Go Go.RowKit Go.WideShapes Go.Deep Go.ChangeShapes
set_option linter.unusedSimpArgs false
set_option linter.unusedVariables false
structure OpR where
  kind : Int
  n : Int
  v : Nat
instance : Inhabited OpR := ⟨⟨0, 0, 0⟩⟩
abbrev opV (x : OpR) : List Value := [.int .i64 x.kind, .int .i64 x.n, .int .u32 (x.v : Int)]
instance : Esz opV 3 := ⟨fun _ => rfl⟩
structure OpOk (x : OpR) : Prop where
  kind : -9223372036854775808 ≤ x.kind ∧ x.kind ≤ 9223372036854775807
  n : -9223372036854775808 ≤ x.n ∧ x.n ≤ 9223372036854775807
  v : Fits .u32 x.v
theorem recOne : ∀ (x : OpR), ∀ q ∈ opV x, q.oneCell' = true := fun x q hq => by
  simp only [opV, List.mem_cons, List.not_mem_nil, or_false] at hq
  rcases hq with rfl | rfl | rfl <;> rfl
theorem openOps {H : Type} {enc : TypeId × Value → H} {W : World} {b0 base : Nat} {held : Bool} {v : Value} {d : DataW H} {ps : List MemPlace}
    (hval : Value.okWide Try.prog W .any base 50 v) (h : DataW.Trod enc Try.prog W b0 (fun _ => true) held 50 v d ps) :
    ∃ xs : List OpR, RdK W [] v 3 opV xs ∧ ∀ x ∈ xs, OpOk x := by
  refine openRecs (f := opV) (good := OpOk) (e := 54) (by kernel_rfl) (by kernel_rfl) (by decide) ?_ hval h
  intro n cs x hx
  obtain ⟨y0, y1, y2, m, rfl, hl, g0, g1, g2⟩ := trod_struct3 Try.underlying54 hx
  have c0 : Try.prog.cellsOf 3 = 1 := by kernel_rfl
  have c2 : Try.prog.cellsOf 26 = 1 := by kernel_rfl
  have cl : cs.length = 3 := by rw [hl]; kernel_rfl
  match cs, cl with
  | [a, b, c], _ =>
    simp only [c0, c2, List.drop, List.take] at g0 g1 g2
    obtain ⟨k, hk, _, wk⟩ := DataW.trod_int Try.underlying3 g0
    obtain ⟨z, hz, _, wz⟩ := DataW.trod_int Try.underlying3 g1
    obtain ⟨u, hu, _, wu⟩ := DataW.trod_int Try.underlying26 g2
    simp only [List.cons.injEq, and_true] at hk hz hu
    subst hk; subst hz; subst hu
    obtain ⟨c, rfl, hc⟩ := natOf rfl rfl wu
    exact ⟨⟨k, z, c⟩, rfl, ⟨i64Of wk, i64Of wz, hc⟩⟩
end Go.Proofs.Ytmffpmmhdianeaa.X
