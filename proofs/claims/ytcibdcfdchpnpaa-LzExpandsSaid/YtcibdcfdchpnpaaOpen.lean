/- What an argument that came in reads as. Nothing is assumed. -/
import Derived.Test.YtcibdcfdchpnpaaX7
import Derived.WalkKit
import Derived.ProofKit
import Derived.OpenShut
import Derived.ShutString
import Derived.ChangeOld
import Derived.Below
import Derived.Deep.Matrix
namespace Go.Proofs.Ytcibdcfdchpnpaa.X
open Go Go.RowKit Go.WideShapes Go.Deep Go.ChangeShapes
set_option linter.unusedSimpArgs false
set_option linter.unusedVariables false
section
variable {H : Type} {enc : TypeId × Value → H} {P : Program} {W : World} {b0 base : Nat} {held : Bool}

theorem Calls.of {fid : FuncId} {args : Array Value} {w : World} {R : Value → World → Prop} (h : Call P fid args w R) : Calls P fid args w fun e w' => ∃ r, e = .returned r ∧ R r w' := h.run
theorem toNats {k : IntKind} (h0 : k.min = 0) (zs : List Int) (hw : ∀ n ∈ zs, (Lit.int k n).wf = true) : zs = (zs.map Int.toNat).map (fun x : Nat => (x : Int)) := by
  rw [List.map_map]
  have : ∀ n ∈ zs, ((fun x : Nat => (x : Int)) ∘ Int.toNat) n = id n := fun n hn => by
    have := hw n hn
    simp [Lit.wf] at this
    simp only [Function.comp, id]
    rw [h0] at this
    omega
  rw [List.map_congr_left this, List.map_id]
theorem openInts {t e : TypeId} {k : IntKind} {v : Value} {d : DataW H} {ps : List MemPlace} (ht : P.underlying t = some (.slice e)) (he : P.underlying e = some (.int k)) (ce : P.cellsOf e = 1)
    (hval : Value.okWide P W .any base t v) (h : DataW.Trod enc P W b0 (fun _ => true) held t v d ps) :
    ∃ zs : List Int, RdC1 W v (int_ k) zs ∧ ∀ n ∈ zs, (Lit.int k n).wf = true := by
  obtain ⟨a, len, cap, rfl⟩ := okWide_slice ht hval
  obtain ⟨fuel, hf⟩ := h
  rcases open_ints ht he ce hf with ⟨hcs, _⟩ | ⟨x, l, c, zs, hcs, _, hl, hm, hz, _, hcell, hwz⟩
  · simp [Value.cells] at hcs
    obtain ⟨rfl, rfl, rfl⟩ := hcs
    exact ⟨[], ⟨rfl, none, 0, rfl, Nat.le_refl _, by simp [maxLen], fun _ => ⟨rfl, rfl⟩, fun _ h => by cases h⟩, fun _ h => by cases h⟩
  · simp [Value.cells] at hcs
    obtain ⟨rfl, rfl, rfl⟩ := hcs
    simp only [if_true] at hz
    have hlen : (zs.take len).length = len := by rw [List.length_take]; omega
    refine ⟨zs.take len, ⟨?_, some x, cap, ?_, by omega, hm, (fun h => by cases h), ?_⟩, fun n hn => hwz n (List.mem_of_mem_take hn)⟩
    · simp
    · rw [hlen]
    · intro ad had
      cases had
      have hsp : 0 < cap → x.spot = none := fun h0 => by
        have := hcell 0 (by omega)
        cases hs : x.spot with
        | none => rfl
        | some q =>
          have e0 : x.add 0 = x := by simp [Addr.add]
          rw [e0] at this
          unfold World.cell? at this
          split at this
          · simp [hs] at this
          · cases this
      refine ⟨hsp, fun i u hu => ?_⟩
      rw [List.getElem?_map, List.getElem?_take] at hu
      split at hu
      · rename_i hi
        have hil : i < zs.length := by omega
        have := hcell i hil
        rw [List.getElem?_eq_getElem hil] at hu
        simp only [Option.map_some, Option.some.injEq] at hu
        subst hu
        have e1 : at_ (.slice (some x) len cap) i = x.add i := by
          obtain ⟨b, o, s⟩ := x
          have := hsp (by omega)
          simp only at this; subst this
          simp only [at_]; unfold Addr.add; split <;> simp_all
        rw [e1, this]
        simp [List.getD, List.getElem?_eq_getElem hil]
      · simp at hu
theorem RdC1.nats {v : Value} {k : IntKind} (h0 : k.min = 0) {zs : List Int} (h : RdC1 W v (int_ k) zs) (hw : ∀ n ∈ zs, (Lit.int k n).wf = true) : RdC1 W v (nat_ k) (zs.map Int.toNat) := by
  have := toNats h0 zs hw
  unfold RdC1 at *
  rw [List.length_map]
  have e : (zs.map Int.toNat).map (nat_ k) = zs.map (int_ k) := by
    conv => rhs; rw [this]
    simp
  rw [e]; exact h
theorem bytesOf {zs : List Int} (hw : ∀ n ∈ zs, (Lit.int .u8 n).wf = true) : Bytes (zs.map Int.toNat) := fun b hb => by
  obtain ⟨n, hn, rfl⟩ := List.mem_map.1 hb
  have := hw n hn
  simp [Lit.wf, IntKind.min, IntKind.max, IntKind.bits, IntKind.signed] at this
  omega
theorem natOf {k : IntKind} {a : Int} (h0 : k.min = 0) (hm : k.signed = false) (hw : (Lit.int k a).wf = true) : ∃ c : Nat, a = (c : Int) ∧ Fits k c := by
  simp [Lit.wf] at hw
  refine ⟨a.toNat, by rw [h0] at hw; omega, ?_⟩
  unfold Fits
  rw [hm]
  cases k <;> simp [IntKind.max, IntKind.min, IntKind.signed, IntKind.bits] at * <;> omega
theorem i64Of {a : Int} (hw : (Lit.int .i64 a).wf = true) : -9223372036854775808 ≤ a ∧ a ≤ 9223372036854775807 := by
  simp [Lit.wf, IntKind.max, IntKind.min, IntKind.signed, IntKind.bits] at hw
  omega
theorem openBytes {t e : TypeId} {v : Value} {d : DataW H} {ps : List MemPlace} (ht : P.underlying t = some (.slice e)) (he : P.underlying e = some (.int .u8)) (ce : P.cellsOf e = 1)
    (hval : Value.okWide P W .any base t v) (h : DataW.Trod enc P W b0 (fun _ => true) held t v d ps) : ∃ bs : List Nat, Rd1 W [] v (nat_ .u8) bs ∧ Bytes bs := by
  obtain ⟨zs, h1, h2⟩ := openInts ht he ce hval h
  exact ⟨_, Rd.old (h1.nats rfl h2), bytesOf h2⟩
theorem openIntsR {t e : TypeId} {k : IntKind} {v : Value} {d : DataW H} {ps : List MemPlace} (ht : P.underlying t = some (.slice e)) (he : P.underlying e = some (.int k)) (ce : P.cellsOf e = 1)
    (hval : Value.okWide P W .any base t v) (h : DataW.Trod enc P W b0 (fun _ => true) held t v d ps) : ∃ zs : List Int, Rd1 W [] v (int_ k) zs ∧ ∀ n ∈ zs, (Lit.int k n).wf = true := by
  obtain ⟨zs, h1, h2⟩ := openInts ht he ce hval h
  exact ⟨_, Rd.old h1, h2⟩
/-- Rows of bytes. -/
theorem openRows {t e q : TypeId} {v : Value} {d : DataW H} {ps : List MemPlace} (ht : P.underlying t = some (.slice e)) (he : P.underlying e = some (.slice q)) (hq : P.underlying q = some (.int .u8)) (ce : P.cellsOf e = 1) (cq : P.cellsOf q = 1)
    (hval : Value.okWide P W .any base t v) (h : DataW.Trod enc P W b0 (fun _ => true) held t v d ps) : ∃ (vs : List Value) (bss : List (List Nat)), RdSS W [] v (nat_ .u8) vs bss ∧ ∀ bs ∈ bss, Bytes bs := by
  have hval' := hval
  obtain ⟨a, len, cap, rfl⟩ := okWide_slice ht hval
  obtain ⟨fuel, hf⟩ := h
  rcases open_int_rows ht he hq ce cq hf with ⟨hcs, _⟩ | ⟨x, l, c, A, Ls, C, Z, hcs, _, hl, hm, _, hrow⟩
  · simp [Value.cells] at hcs
    obtain ⟨rfl, rfl, rfl⟩ := hcs
    exact ⟨[], [], RdSS.of (Rd.nil1 _) RdAll.nil, fun _ h => by cases h⟩
  · simp [Value.cells] at hcs
    obtain ⟨rfl, rfl, rfl⟩ := hcs
    have hspot : 0 < cap → x.spot = none := fun h0 => by
      have := (hrow 0 h0).1
      cases hs : x.spot with
      | none => rfl
      | some q =>
        have e0 : x.add 0 = x := by simp [Addr.add]
        rw [e0] at this
        unfold World.cell? at this
        split at this
        · simp [hs] at this
        · cases this
    have hadd : ∀ (y : Addr) (n k i : Nat), (0 < k → y.spot = none) → i < k → at_ (.slice (some y) n k) i = y.add i := by
      intro y n k i hy hi
      obtain ⟨b, o, s⟩ := y
      have := hy (by omega)
      simp only at this; subst this
      simp only [at_]; unfold Addr.add; split <;> simp_all
    refine ⟨(List.range len).map fun r => .slice (A r) (Ls r) (C r), (List.range len).map fun r => ((Z r).take (Ls r)).map Int.toNat, ⟨?_, by simp, ?_⟩, ?_⟩
    · refine Rd.old ⟨by simp, some x, cap, by simp, by simpa using hl, hm, (fun h => by cases h), ?_⟩
      intro ad had
      cases had
      refine ⟨hspot, fun i u hu => ?_⟩
      rw [List.map_map, List.getElem?_map] at hu
      by_cases hi : i < len
      · rw [List.getElem?_range hi] at hu
        simp only [Option.map_some, Option.some.injEq, Function.comp] at hu
        subst hu
        rw [hadd x _ cap i hspot (by omega)]
        exact (hrow i (by omega)).1
      · rw [List.getElem?_eq_none (by simp; omega)] at hu; simp at hu
    · intro r hr
      simp only [List.length_map, List.length_range] at hr
      obtain ⟨_, h1, h2, h3, h4, h5, h6⟩ := hrow r (by omega)
      have ev : ((List.range len).map fun r => (Value.slice (A r) (Ls r) (C r))).getD r (.slice none 0 0) = .slice (A r) (Ls r) (C r) := by
        simp [List.getD, hr]
      have ex : ((List.range len).map fun r => ((Z r).take (Ls r)).map Int.toNat).getD r [] = ((Z r).take (Ls r)).map Int.toNat := by
        simp [List.getD, hr]
      rw [ev, ex]
      refine Rd.old (RdC1.nats rfl ?_ (fun n hn => h4 n (List.mem_of_mem_take hn)))
      have hlen : ((Z r).take (Ls r)).length = Ls r := by rw [List.length_take]; omega
      refine ⟨by simp, A r, C r, by rw [hlen], by omega, h2, ?_, ?_⟩
      · intro ha; have := h5 ha; omega
      · intro ad had
        obtain ⟨_, hc⟩ := h6 ad had
        have hs : 0 < C r → ad.spot = none := fun h0 => by
          have := hc 0 h0
          cases hs : ad.spot with
          | none => rfl
          | some q =>
            have e0 : ad.add 0 = ad := by simp [Addr.add]
            rw [e0] at this
            unfold World.cell? at this
            split at this
            · simp [hs] at this
            · cases this
        refine ⟨hs, fun i u hu => ?_⟩
        rw [List.getElem?_map, List.getElem?_take] at hu
        split at hu
        · rename_i hi
          have hiz : i < (Z r).length := by omega
          rw [List.getElem?_eq_getElem hiz] at hu
          simp only [Option.map_some, Option.some.injEq] at hu
          subst hu
          rw [had, hadd ad _ (C r) i hs (by omega), hc i (by omega)]
          simp [List.getD, List.getElem?_eq_getElem hiz]
        · simp at hu
    · intro bs hbs
      obtain ⟨r, hr, rfl⟩ := List.mem_map.1 hbs
      simp only [List.mem_range] at hr
      obtain ⟨_, _, _, _, h4, _⟩ := hrow r (by omega)
      exact bytesOf fun n hn => h4 n (List.mem_of_mem_take hn)
end
end Go.Proofs.Ytcibdcfdchpnpaa.X
