/- Slices of structs that came in. Nothing is assumed. -/
import Derived.Test.YtcibdcfdchpnpaaOpen
import Derived.Test.YtcibdcfdchpnpaaX10
import Derived.Deep.Slices
import Derived.Deep.Strs
namespace Go.Proofs.Ytcibdcfdchpnpaa.X
open Go Go.RowKit Go.WideShapes Go.Deep Go.ChangeShapes
set_option linter.unusedSimpArgs false
set_option linter.unusedVariables false
section
variable {H : Type} {enc : TypeId × Value → H} {P : Program} {W : World} {b0 base : Nat} {held : Bool}
/-- A slice of structs, each of which is laid as f says. -/
theorem openRecs {α : Type} [Inhabited α] {f : α → List Value} {esz : Nat} [hE : Esz f esz] {good : α → Prop} {t e : TypeId} {v : Value} {d : DataW H} {ps : List MemPlace} (ht : P.underlying t = some (.slice e)) (ce : P.cellsOf e = esz) (he : 0 < esz)
    (hdec : ∀ (n : Nat) (cs : List Value) (x : DataW H × List MemPlace), DataW.trod enc P W b0 (fun _ => true) held n e cs = some x → ∃ a, cs = f a ∧ good a)
    (hval : Value.okWide P W .any base t v) (h : DataW.Trod enc P W b0 (fun _ => true) held t v d ps) :
    ∃ xs : List α, RdK W [] v esz f xs ∧ ∀ x ∈ xs, good x := by
  obtain ⟨a, len, cap, rfl⟩ := okWide_slice ht hval
  obtain ⟨fuel, hf⟩ := h
  rcases open_slice ht hf with ⟨hcs, _⟩ | ⟨x, l, c, m, n, D, Pl, hcs, _, hl, hm, hmm, _, hx⟩
  · simp [Value.cells] at hcs
    obtain ⟨rfl, rfl, rfl⟩ := hcs
    exact ⟨[], Rd.nilK f, fun _ h => by cases h⟩
  · simp [Value.cells] at hcs
    obtain ⟨rfl, rfl, rfl⟩ := hcs
    simp only [if_true] at hmm
    subst hmm
    rw [ce] at hx
    have each : ∀ i, i < m → ∃ a : α, W.cells? b0 (x.add (i * esz)) esz = some (f a) ∧ good a := by
      intro i hi
      obtain ⟨cs', h1, h2⟩ := hx i hi
      obtain ⟨a, rfl, hg⟩ := hdec n cs' _ h2
      exact ⟨a, h1, hg⟩
    obtain ⟨A, hA⟩ := choose_lt each
    have hspot : 0 < m → x.spot = none := fun h0 => by
      obtain ⟨_, _, hc⟩ := World.cells?_some (hA 0 h0).1
      have := hc 0 he
      cases hs : x.spot with
      | none => rfl
      | some q =>
        have e0 : (x.add (0 * esz)).add 0 = x := by simp [Addr.add]
        rw [e0] at this
        unfold World.cell? at this
        split at this
        · have hlen := hE.eq (A 0)
          simp [hs] at this
          rw [this] at hlen; simp at hlen; omega
        · rw [List.getElem?_eq_getElem (by rw [hE.eq]; exact he)] at this; cases this
    have hadd : ∀ i, 0 < m → at_ (.slice (some x) len m) i = x.add i := by
      intro i h0
      have := hspot h0
      obtain ⟨b, o, s⟩ := x
      simp only at this; subst this
      simp only [at_]; unfold Addr.add; split <;> simp_all
    have hcells : ∀ j v, ((List.range len).map A |>.flatMap f)[j]? = some v → W.cell? (at_ (.slice (some x) len m) j) = some v := by
      intro j v hj
      have hjl : j < len * esz := by
        have := (List.getElem?_eq_some_iff.1 hj).1
        rwa [flatMap_len, List.length_map, List.length_range] at this
      have hq : j / esz < len := Nat.div_lt_of_lt_mul (by rwa [Nat.mul_comm])
      have hr : j % esz < esz := Nat.mod_lt _ he
      have hjj : j = j / esz * esz + j % esz := by rw [Nat.mul_comm]; exact (Nat.div_add_mod j esz).symm
      rw [hjj, flatMap_get (A 0) _ _ _ (by simpa using hq) hr] at hj
      have hg : ((List.range len).map A).getD (j / esz) (A 0) = A (j / esz) := by simp [List.getD, hq]
      rw [hg] at hj
      obtain ⟨_, _, hc⟩ := World.cells?_some (hA (j / esz) (Nat.lt_of_lt_of_le hq hl)).1
      have := hc (j % esz) hr
      rw [Go.Deep.add_add, ← hjj, hj] at this
      rw [hadd j (Nat.lt_of_le_of_lt (Nat.zero_le _) (Nat.lt_of_lt_of_le hq hl))]; exact this
    refine ⟨(List.range len).map A, Rd.old ⟨by rw [flatMap_len], some x, m, by simp, by simpa using hl, hm, (fun h => by cases h), ?_⟩, ?_⟩
    · intro ad had
      cases had
      refine ⟨hspot, ?_⟩
      intro i u hu
      have := hcells i u hu
      simpa using this
    · intro y hy
      obtain ⟨i, hi, rfl⟩ := List.mem_map.1 hy
      simp only [List.mem_range] at hi
      exact (hA i (by omega)).2
end
end Go.Proofs.Ytcibdcfdchpnpaa.X
