/- What a call owns: blocks and slices of its own, apart from each other, above what was there; how operations turn them. Nothing is assumed. -/
import Derived.Test.YtmffpmmhdianeaaX1
import Derived.Maps.AppendAt
import Derived.Laws.IdiomCopy
namespace Go.Proofs.Ytmffpmmhdianeaa.X
open Go Go.RowKit
set_option linter.unusedSimpArgs false
set_option linter.unusedVariables false

/-! ### slices that are read -/
def at_ (v : Value) (j : Nat) : Addr := match v with
  | .slice (some a) _ _ => ⟨a.block, a.off + j, none⟩
  | _ => ⟨0, 0, none⟩
/-- In this world v is a slice of n elements, of esz cells each, whose cells are these. -/
def RdC (w : World) (v : Value) (esz n : Nat) (cs : List Value) : Prop :=
  cs.length = n * esz ∧ ∃ a cap, v = .slice a n cap ∧ n ≤ cap ∧ cap ≤ maxLen ∧ (a = none → n = 0 ∧ cap = 0) ∧ ∀ ad, a = some ad → (0 < cap → ad.spot = none) ∧ ∀ (i : Nat) (u : Value), cs[i]? = some u → w.cell? (at_ v i) = some u
theorem at_block {v : Value} {j k : Nat} (h : v.ownBlock = some k) : (at_ v j).block = k := by
  cases v <;> simp [Value.ownBlock] at h
  rename_i a _ _
  cases a <;> simp [Value.ownBlock] at h
  simp [at_, h]
theorem RdC.congr {w w' : World} {v : Value} {esz n : Nat} {cs : List Value} (h : RdC w v esz n cs) (hw : ∀ k, v.ownBlock = some k → w'.heap[k]? = w.heap[k]?) : RdC w' v esz n cs := by
  obtain ⟨hl, a, cap, rfl, h1, h2, h3, h4⟩ := h
  refine ⟨hl, a, cap, rfl, h1, h2, h3, fun ad had => ⟨(h4 ad had).1, fun i u hu => ?_⟩⟩
  have := (h4 ad had).2 i u hu
  subst had
  have hb : (at_ (.slice (some ad) n cap) i).block = ad.block := at_block rfl
  exact (World.cell?_of_block (w := w) (w' := w') (by rw [hb]; exact hw _ rfl)).trans this

/-- A thing of the call's own: a block of cells; a slice (from its array's head on), nil or not. -/
inductive Res where
  | box (b : Nat) (ty : TypeId) (cs : List Value)
  | row (v : Value) (ty : TypeId) (esz : Nat) (cs : List Value)
  | ro (v : Value) (esz n : Nat) (cs : List Value)
def Res.foot : Res → Option Nat
  | .box b _ _ => some b
  | .row v _ _ _ => v.ownBlock
  | .ro v _ _ _ => v.ownBlock
def Res.holds (B : Nat) (w : World) : Res → Prop
  | .box b ty cs => B ≤ b ∧ w.heap[b]? = some (.cells cs.toArray ty (0, 0))
  | .row v ty esz cs => ∃ n, w.ownsRow B ty esz v n cs
  | .ro v esz n cs => RdC w v esz n cs ∧ ∀ k, v.ownBlock = some k → B ≤ k ∧ k < w.heap.size
def Apart (r s : Res) : Prop := ∀ k, r.foot = some k → s.foot ≠ some k
theorem Apart.symm {r s : Res} (h : Apart r s) : Apart s r := fun k h1 h2 => h k h2 h1

structure Own (w0 w : World) (L : List Res) : Prop where
  below : Below w0.heap.size w0 w
  holds : ∀ r ∈ L, r.holds w0.heap.size w
  apart : L.Pairwise Apart
/-- The world holds at least these. -/
structure Has (w0 w : World) (L : List Res) : Prop where
  below : Below w0.heap.size w0 w
  holds : ∀ r ∈ L, r.holds w0.heap.size w

theorem Own.has {w0 w : World} {L : List Res} (h : Own w0 w L) : Has w0 w L := ⟨h.below, h.holds⟩
theorem Has.mono {w0 w : World} {L L' : List Res} (h : Has w0 w L) (hs : ∀ r ∈ L', r ∈ L) : Has w0 w L' := ⟨h.below, fun r hr => h.holds r (hs r hr)⟩
theorem Own.perm {w0 w : World} {L L' : List Res} (h : Own w0 w L) (hp : L.Perm L') : Own w0 w L' :=
  ⟨h.below, fun r hr => h.holds r (hp.mem_iff.2 hr), (hp.pairwise_iff (fun h => Apart.symm h)).1 h.apart⟩
theorem Own.sub {w0 w : World} {L L' : List Res} (h : Own w0 w L) (hp : L'.Sublist L) : Own w0 w L' :=
  ⟨h.below, fun r hr => h.holds r (hp.subset hr), h.apart.sublist hp⟩
theorem Own.tail {w0 w : World} {r : Res} {L : List Res} (h : Own w0 w (r :: L)) : Own w0 w L := h.sub (List.sublist_cons_self r L)

theorem Res.foot_ge {B : Nat} {w : World} {r : Res} (h : r.holds B w) {k : Nat} (hk : r.foot = some k) : B ≤ k ∧ k < w.heap.size := by
  cases r with
  | box b ty cs =>
    simp only [Res.foot, Option.some.injEq] at hk; subst hk
    exact ⟨h.1, (Array.getElem?_eq_some_iff.1 h.2).1⟩
  | row v ty esz cs => obtain ⟨n, hn⟩ := h; exact hn.lt k hk
  | ro v esz n cs => exact h.2 k hk
theorem Res.holds_congr {B : Nat} {w w' : World} {r : Res} (h : r.holds B w) (hs : w.heap.size ≤ w'.heap.size) (hw : ∀ k, r.foot = some k → w'.heap[k]? = w.heap[k]?) : r.holds B w' := by
  cases r with
  | box b ty cs => exact ⟨h.1, by rw [hw b rfl]; exact h.2⟩
  | row v ty esz cs =>
    obtain ⟨n, h1, h2⟩ := h
    refine ⟨n, h1, ?_⟩
    rcases h2 with hn | ⟨g, cap, cur, rfl, hb, hgg, r⟩
    · exact .inl hn
    · exact .inr ⟨g, cap, cur, rfl, hb, by rw [hw g rfl]; exact hgg, r⟩
  | ro v esz n cs => exact ⟨h.1.congr hw, fun k hk => ⟨(h.2 k hk).1, Nat.lt_of_lt_of_le (h.2 k hk).2 hs⟩⟩

/-- The things A become A'; the others stay. -/
theorem Own.update {w0 w w' : World} {A A' L : List Res} (H : Own w0 w (A ++ L)) (hb : Below w0.heap.size w0 w') (hA : ∀ r ∈ A', r.holds w0.heap.size w') (hp : A'.Pairwise Apart)
    (hf : ∀ r ∈ A', ∀ k, r.foot = some k → (∃ s ∈ A, s.foot = some k) ∨ w.heap.size ≤ k)
    (hs : ∀ k, k < w.heap.size → (∀ s ∈ A, s.foot ≠ some k) → w'.heap[k]? = w.heap[k]?) (hsz : w.heap.size ≤ w'.heap.size := by first | exact Nat.le_refl _ | simp | omega) : Own w0 w' (A' ++ L) := by
  obtain ⟨_, hh, ha⟩ := H
  rw [List.pairwise_append] at ha
  obtain ⟨_, haL, hAL⟩ := ha
  refine ⟨hb, ?_, ?_⟩
  · intro r hr
    rcases List.mem_append.1 hr with hr | hr
    · exact hA r hr
    · have h0 := hh r (List.mem_append.2 (.inr hr))
      refine Res.holds_congr h0 hsz fun k hk => hs k (Res.foot_ge h0 hk).2 fun s hs' he => ?_
      exact hAL s hs' r hr k he hk
  · rw [List.pairwise_append]
    refine ⟨hp, haL, fun r hr s hs' k hk he => ?_⟩
    rcases hf r hr k hk with ⟨t, ht, htk⟩ | hk'
    · exact hAL t ht s hs' k htk he
    · have := (Res.foot_ge (hh s (List.mem_append.2 (.inr hs'))) he).2
      omega

theorem Own.drew {w0 w : World} {L : List Res} (h : Own w0 w L) : Own w0 w.drew L := ⟨h.below.drew, fun r hr => Res.holds_congr (h.holds r hr) (Nat.le_refl _) fun _ _ => rfl, h.apart⟩
theorem Own.drawn {w0 w : World} {L : List Res} (h : Own w0 w L) (d : Nat) : Own w0 { w with drawn := d } L :=
  ⟨⟨h.below.os, h.below.tape, h.below.output, h.below.size, h.below.block⟩, fun r hr => Res.holds_congr (h.holds r hr) (Nat.le_refl _) fun _ _ => rfl, h.apart⟩
theorem Own.nil {w0 : World} : Own w0 w0 [] := ⟨Below.refl _ _, fun _ h => (by cases h), List.Pairwise.nil⟩

/-- A new block. -/
theorem Own.alloc {w0 w : World} {L : List Res} (h : Own w0 w L) (cs : Array Value) (ty : TypeId) : Own w0 (w.alloc (.cells cs ty)) (.box w.heap.size ty cs.toList :: L) := by
  refine Own.update (A := []) (A' := [.box w.heap.size ty cs.toList]) h (h.below.alloc h.below.size _) ?_ (List.pairwise_singleton _ _) ?_ ?_
  · intro r hr
    simp only [List.mem_singleton] at hr; subst hr
    exact ⟨h.below.size, by simpa using heap_alloc_new w _⟩
  · intro r hr k hk
    simp only [List.mem_singleton] at hr; subst hr
    simp only [Res.foot, Option.some.injEq] at hk
    exact .inr (by omega)
  · intro k hk _
    exact Below.heap_alloc w _ k hk

/-- A new row, whole. -/
theorem Own.newRow {w0 w : World} {L : List Res} (h : Own w0 w L) (cs : Array Value) (ty : TypeId) (esz n : Nat) (hn : cs.size = n * esz) (hm : n ≤ maxLen) :
    Own w0 (w.alloc (.cells cs ty)) (.row (.slice (some ⟨w.heap.size, 0, none⟩) n n) ty esz cs.toList :: L) := by
  refine Own.update (A := []) (A' := [.row _ ty esz cs.toList]) h (h.below.alloc h.below.size _) ?_ (List.pairwise_singleton _ _) ?_ ?_
  · intro r hr
    simp only [List.mem_singleton] at hr; subst hr
    exact ⟨n, World.ownsRow_lit w cs n h.below.size hm hn⟩
  · intro r hr k hk
    simp only [List.mem_singleton] at hr; subst hr
    simp only [Res.foot, Value.ownBlock, Option.some.injEq] at hk
    exact .inr (by omega)
  · intro k hk _
    exact Below.heap_alloc w _ k hk
/-- A nil slice is a row of its own. -/
theorem Own.nilRow {w0 w : World} {L : List Res} (h : Own w0 w L) (ty : TypeId) (esz : Nat) : Own w0 w (.row (.slice none 0 0) ty esz [] :: L) := by
  refine Own.update (A := []) (A' := [.row (.slice none 0 0) ty esz []]) h h.below ?_ (List.pairwise_singleton _ _) ?_ (fun _ _ _ => rfl)
  · intro r hr
    simp only [List.mem_singleton] at hr; subst hr
    exact ⟨0, World.ownsRow_nil w _ ty esz⟩
  · intro r hr k hk
    simp only [List.mem_singleton] at hr; subst hr
    simp [Res.foot, Value.ownBlock] at hk

/-- A cell of a block. -/
theorem Has.cell {w0 w : World} {L : List Res} (h : Has w0 w L) {b : Nat} {ty : TypeId} {cs : List Value} (hm : Res.box b ty cs ∈ L) (i : Nat) : w.cell? ⟨b, i, none⟩ = cs[i]? := by
  have h1 := (h.holds _ hm).2
  rw [cell_of_row w b i _ _ _ h1]; simp
theorem Has.frozen {w0 w : World} {L : List Res} (h : Has w0 w L) {b : Nat} {ty : TypeId} {cs : List Value} (hm : Res.box b ty cs ∈ L) (i : Nat) : w.frozen? ⟨b, i, none⟩ = false :=
  frozen_of_row w b i _ _ (h.holds _ hm).2
theorem Own.setBox {w0 w : World} {L : List Res} {b : Nat} {ty : TypeId} {cs : List Value} (h : Own w0 w (.box b ty cs :: L)) (i : Nat) (u : Value) :
    Own w0 (w.setCell ⟨b, i, none⟩ u) (.box b ty (cs.set i u) :: L) := by
  have hh := h.holds _ List.mem_cons_self
  refine Own.update (A := [.box b ty cs]) (A' := [.box b ty (cs.set i u)]) h (h.below.setCell hh.1 _) ?_ (List.pairwise_singleton _ _) ?_ ?_
  · intro r hr
    simp only [List.mem_singleton] at hr; subst hr
    refine ⟨hh.1, ?_⟩
    rw [heap_setCell_same w b i _ _ u hh.2]; simp
  · intro r hr k hk
    simp only [List.mem_singleton] at hr; subst hr
    exact .inl ⟨_, List.mem_singleton.2 rfl, hk⟩
  · intro k _ hk
    exact heap_setCell_other w ⟨b, i, none⟩ k u (fun e => hk _ (List.mem_singleton.2 rfl) (by simp [Res.foot, e]))

/-! ### slices that are read, in what is owned -/
/-- Wherever these things are, it is so. -/
def Rd (w0 : World) (L : List Res) (v : Value) (esz n : Nat) (cs : List Value) : Prop := ∀ w, Has w0 w L → RdC w v esz n cs
theorem Rd.mono {w0 : World} {L L' : List Res} {v : Value} {esz n : Nat} {cs : List Value} (h : Rd w0 L v esz n cs) (hs : ∀ r ∈ L, r ∈ L') : Rd w0 L' v esz n cs := fun w hw => h w (hw.mono hs)

theorem RdC.cell {w : World} {v : Value} {esz n : Nat} {cs : List Value} (h : RdC w v esz n cs) (i : Nat) (u : Value) (hu : cs[i]? = some u) : w.cell? (at_ v i) = some u := by
  obtain ⟨hl, a, cap, rfl, h1, h2, h3, h4⟩ := h
  cases a with
  | none =>
    have := (h3 rfl).1
    subst this
    have : cs = [] := List.eq_nil_of_length_eq_zero (by simpa using hl)
    subst this; cases hu
  | some ad => exact (h4 ad rfl).2 i u hu
theorem RdC.len_le {w : World} {v : Value} {esz n : Nat} {cs : List Value} (h : RdC w v esz n cs) : n ≤ maxLen := by
  obtain ⟨hl, a, cap, rfl, h1, h2, h3, h4⟩ := h; omega

theorem RdC.of_row {w : World} {B : Nat} {ty : TypeId} {esz n : Nat} {v : Value} {cs : List Value} (h : w.ownsRow B ty esz v n cs) : RdC w v esz n cs := by
  refine ⟨h.1, ?_⟩
  rcases h.2 with ⟨rfl, rfl⟩ | ⟨g, cap, cur, rfl, hb, hg, hnc, hcm, hcs, htake⟩
  · exact ⟨none, 0, rfl, Nat.le_refl _, by simp [maxLen], fun _ => ⟨rfl, rfl⟩, fun _ h => by cases h⟩
  · refine ⟨some ⟨g, 0, none⟩, cap, rfl, hnc, hcm, fun h => (by cases h), fun ad had => ?_⟩
    cases had
    refine ⟨fun _ => rfl, fun i u hu => ?_⟩
    have := h.cellAt (g := g) (cap := cap) i (by
      have := (List.getElem?_eq_some_iff.1 hu).1
      rw [h.1] at this; exact this)
    simp only [at_, Nat.zero_add]
    rw [this]; exact hu
theorem Has.row {w0 w : World} {L : List Res} (h : Has w0 w L) {v : Value} {ty : TypeId} {esz : Nat} {cs : List Value} (hm : Res.row v ty esz cs ∈ L) (n : Nat) (hn : cs.length = n * esz) (he : 0 < esz) : RdC w v esz n cs := by
  obtain ⟨m, hr⟩ := h.holds _ hm
  have : m = n := by
    have := hr.1
    rw [hn] at this
    exact (Nat.eq_of_mul_eq_mul_right he this).symm
  subst this
  exact RdC.of_row hr
theorem Rd.row {w0 : World} {L : List Res} {v : Value} {ty : TypeId} {esz : Nat} {cs : List Value} (hm : Res.row v ty esz cs ∈ L) (n : Nat) (hn : cs.length = n * esz) (he : 0 < esz) : Rd w0 L v esz n cs := fun _ hw => hw.row hm n hn he
theorem Has.ro {w0 w : World} {L : List Res} (h : Has w0 w L) {v : Value} {esz n : Nat} {cs : List Value} (hm : Res.ro v esz n cs ∈ L) : RdC w v esz n cs := (h.holds _ hm).1
theorem Rd.ro {w0 : World} {L : List Res} {v : Value} {esz n : Nat} {cs : List Value} (hm : Res.ro v esz n cs ∈ L) : Rd w0 L v esz n cs := fun _ hw => hw.ro hm
theorem RdC.one {w : World} {v : Value} {esz n : Nat} {cs : List Value} (h : RdC w v esz n cs) : v.oneCell' = true := by
  obtain ⟨_, a, cap, rfl, _⟩ := h; rfl
theorem Has.one {w0 w : World} {L : List Res} (h : Has w0 w L) {v : Value} {ty : TypeId} {esz : Nat} {cs : List Value} (hm : Res.row v ty esz cs ∈ L) : v.oneCell' = true := by
  obtain ⟨m, hr⟩ := h.holds _ hm
  exact (RdC.of_row hr).one
theorem Has.oneRo {w0 w : World} {L : List Res} (h : Has w0 w L) {v : Value} {esz n : Nat} {cs : List Value} (hm : Res.ro v esz n cs ∈ L) : v.oneCell' = true := (h.ro hm).one
/-- What was there at the start reads as it did. -/
theorem Rd.old {w0 : World} {L : List Res} {v : Value} {esz n : Nat} {cs : List Value} (h : RdC w0 v esz n cs) : Rd w0 L v esz n cs := by
  intro w hw
  obtain ⟨hl, a, cap, rfl, h1, h2, h3, h4⟩ := h
  refine ⟨hl, a, cap, rfl, h1, h2, h3, fun ad had => ⟨(h4 ad had).1, fun i u hu => ?_⟩⟩
  have hc := (h4 ad had).2 i u hu
  exact (hw.below.cell (World.block_lt_of_cell? w0 _ hc)).trans hc

/-- A store into a row of one's own. -/
theorem Own.setRow {w0 w : World} {L : List Res} {v : Value} {ty : TypeId} {esz : Nat} {cs : List Value} (h : Own w0 w (.row v ty esz cs :: L)) (j : Nat) (hj : j < cs.length) (u : Value) :
    Own w0 (w.setCell (at_ v j) u) (.row v ty esz (cs.set j u) :: L) ∧ (∃ x, w.cell? (at_ v j) = some x) ∧ w.frozen? (at_ v j) = false := by
  obtain ⟨n, hr⟩ := h.holds _ List.mem_cons_self
  have hr0 := hr
  rcases hr.2 with ⟨rfl, rfl⟩ | ⟨g, cap, cur, rfl, hb, hg, hnc, hcm, hcs, htake⟩
  · have := hr.1; simp at this; subst this; simp at hj
  · have he : at_ (.slice (some ⟨g, 0, none⟩) n cap) j = ⟨g, j, none⟩ := by simp [at_]
    rw [he]
    obtain ⟨h1, h2⟩ := hr0.stored j u
    refine ⟨?_, ⟨cs[j], ?_⟩, hr0.frozenAt j⟩
    · refine Own.update (A := [.row _ ty esz cs]) (A' := [.row (.slice (some ⟨g, 0, none⟩) n cap) ty esz (cs.set j u)]) h (h.below.setCell hb _) ?_ (List.pairwise_singleton _ _) ?_ ?_
      · intro r hr
        simp only [List.mem_singleton] at hr; subst hr
        exact ⟨n, h1⟩
      · intro r hr k hk
        simp only [List.mem_singleton] at hr; subst hr
        exact .inl ⟨_, List.mem_singleton.2 rfl, hk⟩
      · intro k _ hk
        exact heap_setCell_other w ⟨g, j, none⟩ k u (fun e => hk _ (List.mem_singleton.2 rfl) (by simp [Res.foot, Value.ownBlock, e]))
    · rw [hr0.cellAt j (by rw [← hr0.1]; exact hj)]
      simp [hj]

section
variable {P : Program} {ρ : Operand → Value} {ty : TypeId} {w w0 : World} {L : List Res}

/-! ### operations on memory -/
theorem run_value {s : Sem Value} {v : Value} {w w' : World} (h : s.run P w = .ok v w') : Sem.run P (do pure (Next.value (← s)) : Sem Next) w = .ok (.value v) w' := by
  rw [Sem.run_bind, h]; rfl
theorem run_skip {s : Sem Unit} {w w' : World} (h : s.run P w = .ok () w') : Sem.run P (do s; pure Next.skip : Sem Next) w = .ok .skip w' := by
  rw [Sem.run_bind, h]; rfl
theorem Val.nilCheck {x : Operand} {a : Addr} (hx : ρ x = .pointer (some a)) : Val P ρ (.nilCheck x) ty w (.pointer (some a)) := ⟨fun _ _ _ _ => by simp [execOp, hx]⟩
theorem run_fieldAt {s f off : Nat} [h : FieldOk P s f off] (a : Addr) (w : World) : (Instr.fieldAt s (.pointer (some a)) f).run P w = .ok (.pointer (some (a.add off))) w := by
  obtain ⟨fields, fd, i, h1, h2, h3, h4, h5⟩ := h.eq
  subst h3
  simp [Instr.fieldAt, run_underlying h1, h2, Instr.sureAddr, fieldPlace, sizeOf, typeInfo, h4, h5]
theorem Val.fieldAddr {s f off : Nat} {x : Operand} {b o k : Nat} [FieldOk P s f off] (hx : ρ x = .pointer (some ⟨b, o, none⟩)) (hk : o + off = k) : Val P ρ (.fieldAddr s x f) ty w (.pointer (some ⟨b, k, none⟩)) := by
  refine ⟨fun _ _ _ _ => ?_⟩
  have : (⟨b, o, none⟩ : Addr).add off = ⟨b, k, none⟩ := by
    subst hk; unfold Addr.add; by_cases h0 : off = 0
    · subst h0; rfl
    · rw [if_neg h0]
  have hr := run_fieldAt (P := P) (s := s) (f := f) (off := off) ⟨b, o, none⟩ w
  rw [this] at hr
  simp only [execOp, hx]
  exact run_value hr

/-- A type whose values are one cell. -/
def isOne : TypeDesc → Bool
  | .struct _ | .array _ _ => false
  | _ => true
class OneTy (P : Program) (t : TypeId) : Prop where
  eq : ∃ d, P.underlying t = some d ∧ isOne d = true ∧ ∃ i, P.info? t = some i ∧ i.size = 1
theorem run_isAgg_one {t : TypeId} [h : OneTy P t] (w : World) : (isAgg t).run P w = .ok false w := by
  obtain ⟨d, h1, h2, _⟩ := h.eq
  unfold isAgg
  cases d <;> simp_all [run_underlying h1, isOne]
theorem Val.load {t : TypeId} {x : Operand} {a : Addr} {u : Value} [OneTy P t] (hx : ρ x = .pointer (some a)) (hc : w.cell? a = some u) : Val P ρ (.load t x) ty w u := by
  refine ⟨fun _ _ _ _ => ?_⟩
  simp only [execOp, hx]
  simp [go_sem, Instr.loadAt, Instr.sureAddr, loadVar, run_isAgg_one, load, hc, Sem.run]
theorem Skips.store {t : TypeId} {x y : Operand} {a : Addr} {u old : Value} [h : OneTy P t] (hx : ρ x = .pointer (some a)) (hy : ρ y = u) (hu : u.oneCell' = true) (hc : w.cell? a = some old) (hf : w.frozen? a = false) :
    Skips P ρ (.store t x y) ty w (w.setCell a u) := by
  refine ⟨fun _ _ _ _ => ?_⟩
  obtain ⟨d, h1, h2, i, h3, h4⟩ := h.eq
  simp only [execOp, hx, hy]
  have hcs : u.cells = #[u] := by cases u <;> first | rfl | (simp [Value.oneCell'] at hu)
  have ha : a.add 0 = a := by simp [Addr.add]
  have hst : (Go.store a u).run P w = Result.ok () (w.setCell a u) := by
    cases u <;> first | (simp [Value.oneCell'] at hu; done) | simp [Go.store, Sem.run, hc, hf]
  refine run_skip ?_
  simp [Instr.storeAt, Instr.sureAddr, storeVar, hcs, sizeOf, typeInfo, h3, h4, storeCells, ha, hst]

theorem Val.len {t : TypeId} {d : TypeId} {x : Operand} {esz n : Nat} {cs : List Value} {v : Value} [hu : UTy P t (.slice d)] (hx : ρ x = v) (h : RdC w v esz n cs) : Val P ρ (.call { callee := .builtin .len, args := #[x], argTypes := #[t] }) ty w (.int .i64 n) := by
  refine ⟨fun _ _ _ _ => ?_⟩
  obtain ⟨hl, a, cap, rfl, h1, h2, h3, h4⟩ := h
  simp only [execOp, resolve]
  simp [go_sem, invoke, builtin, Builtin.len_, run_underlying hu.eq, hx, goInt]
end
end Go.Proofs.Ytmffpmmhdianeaa.X
