/- Operations that index, cut, make and append. Nothing is assumed. -/
import Derived.Test.YtcibdcfdchpnpaaX2
import Derived.Laws.Tables
import Derived.Laws.BytesString
import Derived.Laws.Small
namespace Go.Proofs.Ytcibdcfdchpnpaa.X
open Go Go.RowKit
set_option linter.unusedSimpArgs false
set_option linter.unusedVariables false

abbrev nat_ (k : IntKind) : Nat → Value := fun x => .int k (x : Int)
abbrev int_ (k : IntKind) : Int → Value := fun x => .int k x

abbrev val_ : Value → Value := fun v => v
/-- A slice of n elements of one cell each, that reads so. -/
abbrev Rd1 {α : Type} (w0 : World) (L : List Res) (v : Value) (f : α → Value) (xs : List α) : Prop := Rd w0 L v 1 xs.length (xs.map f)
abbrev RdC1 {α : Type} (w : World) (v : Value) (f : α → Value) (xs : List α) : Prop := RdC w v 1 xs.length (xs.map f)
abbrev row1 {α : Type} (v : Value) (ty : TypeId) (f : α → Value) (xs : List α) : Res := .row v ty 1 (xs.map f)

theorem Has.row1 {α : Type} {w0 w : World} {L : List Res} (h : Has w0 w L) {v : Value} {ty : TypeId} {f : α → Value} {xs : List α} (hm : X.row1 v ty f xs ∈ L) : RdC1 w v f xs :=
  h.row hm _ (by simp) (by omega)
theorem Rd.row1 {α : Type} {w0 : World} {L : List Res} {v : Value} {ty : TypeId} {f : α → Value} {xs : List α} (hm : X.row1 v ty f xs ∈ L) : Rd1 w0 L v f xs := fun _ hw => hw.row1 hm

/-- A cut of a slice. -/
def subs (v : Value) (esz l h : Nat) : Value := match v with
  | .slice a _ cap => .slice (if cap = l then a else a.map (·.add (l * esz))) (h - l) (cap - l)
  | v => v
theorem at_subs {a : Addr} {n cap esz l h j : Nat} (ha : a.spot = none) (hl : l < cap) : at_ (subs (.slice (some a) n cap) esz l h) j = at_ (.slice (some a) n cap) (l * esz + j) := by
  have hne : ¬ cap = l := by omega
  obtain ⟨b, o, s⟩ := a
  simp only at ha; subst ha
  simp only [subs, hne, if_false, Option.map_some, at_, Addr.add]
  by_cases h0 : l * esz = 0
  · simp [h0]
  · simp [h0, Nat.add_assoc]
theorem RdC.subs {w : World} {v : Value} {esz n : Nat} {cs : List Value} (hr : RdC w v esz n cs) {l h : Nat} (hlh : l ≤ h) (hn : h ≤ n) : RdC w (subs v esz l h) esz (h - l) ((cs.drop (l * esz)).take ((h - l) * esz)) := by
  obtain ⟨hl, a, cap, rfl, h1, h2, h3, h4⟩ := hr
  have hmul : l * esz + (h - l) * esz = h * esz := by rw [← Nat.add_mul]; congr 1; omega
  have hle : h * esz ≤ n * esz := Nat.mul_le_mul_right _ hn
  refine ⟨?_, (if cap = l then a else a.map (·.add (l * esz))), cap - l, rfl, by omega, by omega, ?_, ?_⟩
  · rw [List.length_take, List.length_drop, hl]; omega
  · intro h0
    have ha : a = none := by
      split at h0
      · exact h0
      · simpa using h0
    obtain ⟨hn0, hc0⟩ := h3 ha
    omega
  · intro ad had
    by_cases hcl : cap = l
    · rw [if_pos hcl] at had
      subst had
      refine ⟨fun h0 => absurd h0 (by omega), fun i u hu => ?_⟩
      have : (h - l) * esz = 0 := by
        have : h - l = 0 := by omega
        rw [this]; simp
      rw [this] at hu; simp at hu
    · rw [if_neg hcl] at had
      cases a with
      | none => simp at had
      | some a0 =>
        have hs := (h4 a0 rfl).1 (by omega)
        simp only [Option.map_some, Option.some.injEq] at had
        refine ⟨?_, fun i u hu => ?_⟩
        · intro _; subst had; unfold Addr.add; split
          · exact hs
          · rfl
        · have hil : i < (h - l) * esz := by
            have := (List.getElem?_eq_some_iff.1 hu).1
            rw [List.length_take] at this; omega
          rw [List.getElem?_take, if_pos hil, List.getElem?_drop] at hu
          have := (h4 a0 rfl).2 _ u hu
          show w.cell? (at_ (X.subs (.slice (some a0) n cap) esz l h) i) = some u
          rw [at_subs hs (by omega)]; exact this
theorem Rd.subs {w0 : World} {L : List Res} {v : Value} {esz n : Nat} {cs : List Value} (hr : Rd w0 L v esz n cs) {l h : Nat} (hlh : l ≤ h) (hn : h ≤ n) : Rd w0 L (subs v esz l h) esz (h - l) ((cs.drop (l * esz)).take ((h - l) * esz)) :=
  fun w hw => (hr w hw).subs hlh hn
theorem RdC1.subs {α : Type} {w : World} {v : Value} {f : α → Value} {xs : List α} (hr : RdC1 w v f xs) {l h : Nat} (hlh : l ≤ h) (hn : h ≤ xs.length) : RdC1 w (subs v 1 l h) f ((xs.drop l).take (h - l)) := by
  have := RdC.subs hr hlh hn
  have hlen : ((xs.drop l).take (h - l)).length = h - l := by rw [List.length_take, List.length_drop]; omega
  unfold RdC1
  rw [hlen]
  simpa using this
theorem Rd1.subs {α : Type} {w0 : World} {L : List Res} {v : Value} {f : α → Value} {xs : List α} (hr : Rd1 w0 L v f xs) {l h : Nat} (hlh : l ≤ h) (hn : h ≤ xs.length) : Rd1 w0 L (subs v 1 l h) f ((xs.drop l).take (h - l)) :=
  fun w hw => RdC1.subs (hr w hw) hlh hn

/-- A slice of slices, each of which reads so. -/
structure RdSS {α : Type} (w0 : World) (L : List Res) (pv : Value) (f : α → Value) (vs : List Value) (xss : List (List α)) : Prop where
  outer : Rd1 w0 L pv val_ vs
  len : vs.length = xss.length
  inner : ∀ k, k < xss.length → Rd1 w0 L (vs.getD k (.slice none 0 0)) f (xss.getD k [])
theorem RdSS.mono {α : Type} {w0 : World} {L L' : List Res} {pv : Value} {f : α → Value} {vs : List Value} {xss : List (List α)} (h : RdSS w0 L pv f vs xss) (hs : ∀ r ∈ L, r ∈ L') : RdSS w0 L' pv f vs xss :=
  ⟨h.outer.mono hs, h.len, fun k hk => (h.inner k hk).mono hs⟩

theorem Rd.ro1 {α : Type} {w0 : World} {L : List Res} {v : Value} {f : α → Value} {xs : List α} (hm : Res.ro v 1 xs.length (xs.map f) ∈ L) : Rd1 w0 L v f xs := fun _ hw => hw.ro hm
theorem Rd.nil1 {α : Type} {w0 : World} {L : List Res} (f : α → Value) : Rd1 w0 L (.slice none 0 0) f ([] : List α) :=
  fun _ _ => ⟨rfl, none, 0, rfl, Nat.le_refl _, by decide, fun _ => ⟨rfl, rfl⟩, fun _ h => by cases h⟩
/-- Slices one behind the other, each of which reads so. -/
def RdAll {α : Type} (w0 : World) (L : List Res) (f : α → Value) : List Value → List (List α) → Prop
  | [], [] => True
  | v :: vs, xs :: xss => Rd1 w0 L v f xs ∧ RdAll w0 L f vs xss
  | _, _ => False
theorem RdAll.nil {α : Type} {w0 : World} {L : List Res} {f : α → Value} : RdAll w0 L f [] [] := trivial
theorem RdAll.cons {α : Type} {w0 : World} {L : List Res} {f : α → Value} {v : Value} {xs : List α} {vs : List Value} {xss : List (List α)} (h : Rd1 w0 L v f xs) (t : RdAll w0 L f vs xss) : RdAll w0 L f (v :: vs) (xs :: xss) := ⟨h, t⟩
theorem RdSS.of {α : Type} {w0 : World} {L : List Res} {pv : Value} {f : α → Value} {vs : List Value} {xss : List (List α)} (ho : Rd1 w0 L pv val_ vs) (ha : RdAll w0 L f vs xss) : RdSS w0 L pv f vs xss := by
  refine ⟨ho, ?_, ?_⟩
  · clear ho
    induction vs generalizing xss with
    | nil => cases xss <;> first | rfl | exact ha.elim
    | cons v vs ih => cases xss with
      | nil => exact ha.elim
      | cons x xss => simp [ih ha.2]
  · clear ho
    induction vs generalizing xss with
    | nil => cases xss with
      | nil => intro k hk; simp at hk
      | cons => exact ha.elim
    | cons v vs ih => cases xss with
      | nil => exact ha.elim
      | cons x xss =>
        intro k hk
        cases k with
        | zero => exact ha.1
        | succ k => exact ih ha.2 k (by simpa using hk)

section
variable {P : Program} {ρ : Operand → Value} {ty : TypeId} {w w0 : World} {L : List Res}

/-! ### indexing -/
theorem Val.idx {t d : TypeId} {x ix : Operand} {k : IntKind} {i : Int} {v z : Value} {esz by_ n : Nat} {cs : List Value} [hu : UTy P t (.slice d)] [hs : Sz P d esz by_ z] (hx : ρ x = v) (hi : ρ ix = .int k i) (hr : RdC w v esz n cs) (h0 : 0 ≤ i) (h1 : i < n) :
    Val P ρ (.indexAddr t x ix) ty w (.pointer (some (at_ v (i.toNat * esz)))) := by
  refine ⟨fun _ _ _ _ => ?_⟩
  obtain ⟨hl, a, cap, rfl, h2, h3, h4, h5⟩ := hr
  obtain ⟨inf, g1, g2, _, _⟩ := hs.eq
  cases a with
  | none => have := (h4 rfl).1; omega
  | some ad =>
    have hsp := (h5 ad rfl).1 (by omega)
    obtain ⟨b, o, sp⟩ := ad
    simp only at hsp; subst hsp
    have hadd : (⟨b, o, none⟩ : Addr).add (i.toNat * inf.size) = ⟨b, o + i.toNat * esz, none⟩ := by
      rw [g2]; unfold Addr.add; by_cases h0 : i.toNat * esz = 0
      · rw [if_pos h0, h0]; rfl
      · rw [if_neg h0]
    simp only [execOp, hx, hi]
    refine run_value ?_
    simp [Instr.indexAt, run_underlying hu.eq, asIntOf, sizeOf, typeInfo, g1, h0, h1, hadd, at_]
theorem Val.idx1 {t d : TypeId} {x ix : Operand} {k : IntKind} {j : Nat} {v z : Value} {by_ n : Nat} {cs : List Value} [hu : UTy P t (.slice d)] [hs : Sz P d 1 by_ z] (hx : ρ x = v) (hi : ρ ix = .int k (j : Int)) (hr : RdC w v 1 n cs) (h1 : j < n) :
    Val P ρ (.indexAddr t x ix) ty w (.pointer (some (at_ v j))) := by
  have := Val.idx (P := P) (ty := ty) (w := w) (hu := hu) (hs := hs) hx hi hr (by omega) (by omega)
  simpa using this
theorem Val.idx1I {t d : TypeId} {x ix : Operand} {k : IntKind} {i : Int} {v z : Value} {by_ n : Nat} {cs : List Value} [hu : UTy P t (.slice d)] [hs : Sz P d 1 by_ z] (hx : ρ x = v) (hi : ρ ix = .int k i) (hr : RdC w v 1 n cs) (h0 : 0 ≤ i) (h1 : i < n) :
    Val P ρ (.indexAddr t x ix) ty w (.pointer (some (at_ v i.toNat))) := by
  have := Val.idx (P := P) (ty := ty) (w := w) (hu := hu) (hs := hs) hx hi hr h0 h1
  simpa using this

/-- An element of one cell, read. -/
theorem Val.loadAt {α : Type} {t : TypeId} {x : Operand} {v : Value} {j : Nat} {f : α → Value} {xs : List α} (d : α) [OneTy P t] (hx : ρ x = .pointer (some (at_ v j))) (hr : RdC1 w v f xs) (hj : j < xs.length) : Val P ρ (.load t x) ty w (f (xs.getD j d)) :=
  Val.load hx (RdC.cell hr j _ (by simp [hj]))
theorem Val.loadAtN {t : TypeId} {x : Operand} {v : Value} {j : Nat} {k : IntKind} {xs : List Nat} [OneTy P t] (hx : ρ x = .pointer (some (at_ v j))) (hr : RdC1 w v (nat_ k) xs) (hj : j < xs.length) : Val P ρ (.load t x) ty w (.int k ((xs.getD j 0 : Nat) : Int)) :=
  Val.loadAt 0 hx hr hj
theorem Val.loadAtI {t : TypeId} {x : Operand} {v : Value} {j : Nat} {k : IntKind} {xs : List Int} [OneTy P t] (hx : ρ x = .pointer (some (at_ v j))) (hr : RdC1 w v (int_ k) xs) (hj : j < xs.length) : Val P ρ (.load t x) ty w (.int k (xs.getD j 0)) :=
  Val.loadAt 0 hx hr hj
theorem Val.loadAtV {t : TypeId} {x : Operand} {v : Value} {j : Nat} {xs : List Value} [OneTy P t] (hx : ρ x = .pointer (some (at_ v j))) (hr : RdC1 w v val_ xs) (hj : j < xs.length) : Val P ρ (.load t x) ty w (xs.getD j (.slice none 0 0)) :=
  Val.loadAt (.slice none 0 0) hx hr hj
/-- A cell of a block, read. -/
theorem Val.loadBox {t : TypeId} {x : Operand} {b i : Nat} {bt : TypeId} {cs : List Value} {u : Value} [OneTy P t] (hx : ρ x = .pointer (some ⟨b, i, none⟩)) (H : Has w0 w L) (hm : Res.box b bt cs ∈ L) (hu : cs[i]? = some u) : Val P ρ (.load t x) ty w u :=
  Val.load hx ((H.cell hm i).trans hu)

/-! ### cutting -/
theorem Val.cut {t d : TypeId} {x lo hi : Operand} {kl kh : IntKind} {l h : Int} {v z : Value} {esz by_ n : Nat} {cs : List Value} [hu : UTy P t (.slice d)] [hs : Sz P d esz by_ z] (hx : ρ x = v) (hlo : ρ lo = .int kl l) (hhi : ρ hi = .int kh h) (hr : RdC w v esz n cs) (h0 : 0 ≤ l) (h1 : l ≤ h) (h2 : h ≤ n) :
    Val P ρ (.slice t x (some lo) (some hi) none) ty w (subs v esz l.toNat h.toNat) := by
  refine ⟨fun _ _ _ _ => ?_⟩
  obtain ⟨hl, a, cap, rfl, h3, h4, h5, h6⟩ := hr
  obtain ⟨inf, g1, g2, _, _⟩ := hs.eq
  simp only [execOp, hx, Option.map_some, Option.map_none, hlo, hhi]
  refine run_value ?_
  have hh0 : 0 ≤ h := by omega
  have hhc : h ≤ (cap : Int) := by omega
  have hhn : (h.toNat : Int) = h := Int.toNat_of_nonneg hh0
  simp [Instr.sliceAt, Instr.slice, run_underlying hu.eq, Instr.sliceBounds, Instr.sliceBound, asIntOf, sizeOf, typeInfo, g1, g2, subs, h0, hh0, hhc, h1, hhn]
theorem Val.cutHi {t d : TypeId} {x hi : Operand} {kh : IntKind} {h : Int} {v z : Value} {esz by_ n : Nat} {cs : List Value} [hu : UTy P t (.slice d)] [hs : Sz P d esz by_ z] (hx : ρ x = v) (hhi : ρ hi = .int kh h) (hr : RdC w v esz n cs) (h1 : 0 ≤ h) (h2 : h ≤ n) :
    Val P ρ (.slice t x none (some hi) none) ty w (subs v esz 0 h.toNat) := by
  refine ⟨fun _ _ _ _ => ?_⟩
  obtain ⟨hl, a, cap, rfl, h3, h4, h5, h6⟩ := hr
  obtain ⟨inf, g1, g2, _, _⟩ := hs.eq
  simp only [execOp, hx, Option.map_some, Option.map_none, hhi]
  refine run_value ?_
  have hhc : h ≤ (cap : Int) := by omega
  simp [Instr.sliceAt, Instr.slice, run_underlying hu.eq, Instr.sliceBounds, Instr.sliceBound, asIntOf, sizeOf, typeInfo, g1, g2, subs, h1, hhc]
theorem Val.cutLo {t d : TypeId} {x lo : Operand} {kl : IntKind} {l : Int} {v z : Value} {esz by_ n : Nat} {cs : List Value} [hu : UTy P t (.slice d)] [hs : Sz P d esz by_ z] (hx : ρ x = v) (hlo : ρ lo = .int kl l) (hr : RdC w v esz n cs) (h0 : 0 ≤ l) (h1 : l ≤ n) :
    Val P ρ (.slice t x (some lo) none none) ty w (subs v esz l.toNat n) := by
  refine ⟨fun _ _ _ _ => ?_⟩
  obtain ⟨hl, a, cap, rfl, h3, h4, h5, h6⟩ := hr
  obtain ⟨inf, g1, g2, _, _⟩ := hs.eq
  simp only [execOp, hx, Option.map_some, Option.map_none, hlo]
  refine run_value ?_
  simp [Instr.sliceAt, Instr.slice, run_underlying hu.eq, Instr.sliceBounds, Instr.sliceBound, asIntOf, sizeOf, typeInfo, g1, g2, subs, h0, h1]

/-! ### making -/
theorem Vals.box {t : TypeId} {x : Operand} {u : Value} (hx : ρ x = u) : Vals P ρ (.box t x) ty w (.pointer (some ⟨w.heap.size, 0, none⟩)) (w.alloc (.cells u.cells t)) := by
  refine ⟨fun _ _ _ _ => ?_⟩
  simp only [execOp, hx]
  refine run_value ?_
  simp [Instr.box, newVar, newRow, newObj, Sem.run]
theorem Vals.alloc {t : TypeId} {s b : Nat} {z : Value} [h : Sz P t s b z] : Vals P ρ (.alloc t) ty w (.pointer (some ⟨w.heap.size, 0, none⟩)) (w.alloc (.cells z.cells t)) := by
  refine ⟨fun _ _ _ _ => ?_⟩
  obtain ⟨inf, g1, g2, g3, g4⟩ := h.eq
  simp only [execOp]
  refine run_value ?_
  simp [Instr.alloc, newVar, newRow, newObj, Sem.run, zeroValue, typeInfo, g1, g4]
theorem Val.build {t : TypeId} {parts : Array (Nat × Operand)} {cells : Array Value} (h : P.built t ((parts.map fun p => (p.1, ρ p.2)).toList) = some cells) : Val P ρ (.build t parts) ty w (.agg cells) := by
  refine ⟨fun _ _ _ _ => ?_⟩
  simp only [execOp]
  exact run_value (run_build w t _ cells h)

theorem fill_ones : ∀ (us : List Value) (i0 : Nat) (cells : Array Value), (∀ u ∈ us, u.cells = #[u]) → i0 + us.length ≤ cells.size →
    ∃ out, Instr.fill (fun i => some (i * 1, 1)) cells ((us.zipIdx i0).map fun p => (p.2, p.1)) = some out ∧ out.size = cells.size ∧ ∀ j, out[j]? = if i0 ≤ j ∧ j < i0 + us.length then us[j - i0]? else cells[j]?
  | [], i0, cells, _, _ => ⟨cells, rfl, rfl, fun j => by rw [if_neg]; simp⟩
  | u :: us, i0, cells, h, hl => by
    have hu : u.cells = #[u] := h u List.mem_cons_self
    have hs : u.cells.size = 1 := by rw [hu]; rfl
    simp only [List.length_cons] at hl
    have hz : (u.cells.zipIdx.foldl (fun cs (x : Value × Nat) => cs.setIfInBounds (i0 * 1 + x.2) x.1) cells) = cells.setIfInBounds i0 u := by rw [hu]; simp [Array.zipIdx]
    obtain ⟨out, h1, h2, h3⟩ := fill_ones us (i0 + 1) (cells.setIfInBounds i0 u) (fun v hv => h v (List.mem_cons_of_mem _ hv)) (by simp; omega)
    refine ⟨out, ?_, by rw [h2]; simp, fun j => ?_⟩
    · simp only [List.zipIdx_cons, List.map_cons, Instr.fill, hs]
      rw [if_neg (by simp; omega)]
      have hz' : (u.cells.zipIdx.foldl (fun cs (x : Value × Nat) => match x with | (c, j) => cs.setIfInBounds (i0 * 1 + j) c) cells) = cells.setIfInBounds i0 u := hz
      rw [hz']; exact h1
    · rw [h3 j]
      by_cases hj : j = i0
      · subst hj
        rw [if_neg (by omega), if_pos (by simp)]
        have hlt : j < cells.size := by omega
        simp [hlt]
      · by_cases hj2 : i0 + 1 ≤ j ∧ j < i0 + 1 + us.length
        · rw [if_pos hj2, if_pos (by simp; omega)]
          obtain ⟨d, rfl⟩ := Nat.exists_eq_add_of_le hj2.1
          rw [show i0 + 1 + d - i0 = d + 1 from by omega, show i0 + 1 + d - (i0 + 1) = d from by omega]
          simp
        · rw [if_neg hj2, if_neg (by simp; omega)]
          rw [Array.getElem?_setIfInBounds_ne (by omega)]

/-- A slice written out, of elements of one cell. -/
theorem run_buildSlice {t d : TypeId} {by_ : Nat} {z : Value} [hu : UTy P t (.slice d)] [hs : Sz P d 1 by_ z] (us : List Value) (h1 : ∀ u ∈ us, u.cells = #[u]) (hz : z.cells.size = 1) (hn : us.length ≤ 65536) :
    ∃ cs : Array Value, cs.toList = us ∧ (Instr.buildSlice t us.length ((us.zipIdx 0).map fun p => (p.2, p.1)).toArray).run P w = .ok (.slice (some ⟨w.heap.size, 0, none⟩) us.length us.length) (w.alloc (.cells cs d)) := by
  obtain ⟨inf, g1, g2, g3, g4⟩ := hs.eq
  let cells : Array Value := (Array.range (us.length * 1)).map (fun i => (if us.length * 1 = 0 then (#[] : Array Value) else z.cells)[i % (if us.length * 1 = 0 then (#[] : Array Value) else z.cells).size]!)
  obtain ⟨out, o1, o2, o3⟩ := fill_ones us 0 cells h1 (by simp [cells])
  refine ⟨out, ?_, ?_⟩
  · apply List.ext_getElem?
    intro j
    have := o3 j
    simp only [Nat.zero_le, true_and, Nat.zero_add, Nat.sub_zero] at this
    rw [Array.getElem?_toList, this]
    split
    · rfl
    · rename_i hj
      rw [List.getElem?_eq_none (by omega), Array.getElem?_eq_none (by simp [cells]; omega)]
  · have hlim : ¬ (us.length * 1 > 2 ^ 24) := by omega
    unfold Instr.buildSlice
    simp only [Sem.run_bind, run_underlying hu.eq, Result.andThen, sizeOf, typeInfo, program]
    by_cases h0 : us.length = 0
    · simp [h0, Sem.run, g1, g2] at o1 ⊢
      have : us = [] := List.eq_nil_of_length_eq_zero h0
      subst this
      simp [Instr.fill, cells] at o1 ⊢
      subst o1
      simp [newRow, newObj, Sem.run, Array.range_zero']
    · have o1' : Instr.fill (fun i => some (i * 1, 1)) ((Array.range (us.length * 1)).map fun i => z.cells[i % z.cells.size]!) ((us.zipIdx 0).map fun p => (p.2, p.1)) = some out := by
        have : cells = ((Array.range (us.length * 1)).map fun i => z.cells[i % z.cells.size]!) := by simp [cells, h0]
        rw [← this]; exact o1
      simp [Sem.run, g1, g2, g4, h0, hlim, zeroValue, typeInfo, program] at o1' ⊢
      rw [if_neg (by omega)]
      simp [Sem.run, o1', newRow, newObj]
theorem Vals.buildSlice {t d : TypeId} {by_ n : Nat} {z : Value} [hu : UTy P t (.slice d)] [hs : Sz P d 1 by_ z] {parts : Array (Nat × Operand)} {us : List Value} (hp : (parts.map fun p => (p.1, ρ p.2)) = ((us.zipIdx 0).map fun p => (p.2, p.1)).toArray) (hn' : n = us.length)
    (h1 : ∀ u ∈ us, u.cells = #[u]) (hz : z.cells.size = 1) (hn : us.length ≤ 65536) (H : Own w0 w L) :
    ∃ w', Vals P ρ (.buildSlice t n parts) ty w (.slice (some ⟨w.heap.size, 0, none⟩) us.length us.length) w' ∧ Own w0 w' (.row (.slice (some ⟨w.heap.size, 0, none⟩) us.length us.length) d 1 us :: L) := by
  obtain ⟨cs, hc, hr⟩ := run_buildSlice (P := P) (w := w) (t := t) (hu := hu) (hs := hs) us h1 hz hn
  refine ⟨w.alloc (.cells cs d), ⟨fun _ _ _ _ => ?_⟩, ?_⟩
  · simp only [execOp]
    refine run_value ?_
    subst hn'
    have : (parts.map fun (i, x) => (i, ρ x)) = ((us.zipIdx 0).map fun p => (p.2, p.1)).toArray := hp
    rw [this]; exact hr
  · have hsz : cs.size = us.length * 1 := by rw [← hc]; simp
    have := H.newRow cs d 1 us.length hsz (by simp only [maxLen]; omega)
    rwa [hc] at this

/-- make([]T, n), of elements of one cell. -/
theorem Vals.make {t d : TypeId} {x y : Operand} {k k' : IntKind} {n by_ : Nat} {z : Value} [hu : UTy P t (.slice d)] [hs : Sz P d 1 by_ z] (hx : ρ x = .int k (n : Int)) (hy : ρ y = .int k' (n : Int)) (hz : z.cells = #[z]) (hb : by_ * n ≤ 281474976710656) (hm : n ≤ maxLen) (H : Own w0 w L) :
    ∃ w', Vals P ρ (.makeSlice t x y) ty w (.slice (some ⟨w.heap.size, 0, none⟩) n n) w' ∧ Own w0 w' (.row (.slice (some ⟨w.heap.size, 0, none⟩) n n) d 1 (List.replicate n z) :: L) := by
  obtain ⟨inf, g1, g2, g3, g4⟩ := hs.eq
  have hm' : (n : Int) ≤ 9223372036854775807 := by simp only [maxLen] at hm; omega
  have hb' : (inf.bytes : Int) * (n : Int) ≤ 281474976710656 := by
    have h : ((by_ * n : Nat) : Int) ≤ 281474976710656 := by omega
    rw [g3]; rwa [Int.natCast_mul] at h
  have hr := run_make (P := P) w t d inf z hu.eq g1 g4 k k' n n (by omega) (Int.le_refl _) hb' hm'
  refine ⟨w.alloc (.cells (madeCells z.cells (n * 1)) d), ⟨fun _ _ _ _ => ?_⟩, ?_⟩
  · simp only [execOp, hx, hy]
    refine run_value ?_
    rw [hr, g2]; simp
  · have h1 : (madeCells z.cells (n * 1)).size = n * 1 := size_madeCells _ _
    have := H.newRow (madeCells z.cells (n * 1)) d 1 n h1 hm
    rw [hz] at this ⊢
    rwa [show (madeCells #[z] (n * 1)).toList = List.replicate n z from by rw [Nat.mul_one]; exact toList_madeCells_one z n] at this

/-! ### a struct written out -/
def bldB (P : Program) (t : TypeId) : Option (List (Nat × Nat) × List Value) :=
  match P.info? t, P.underlying t with
  | some it, some (.struct fields) => match it.zero, fields.toList.mapM (fun f => (P.info? f.type).map fun i => (f.offset, i.size)) with
    | some z, some places => some (places, z.cells.toList)
    | _, _ => none
  | _, _ => none
class Bld (P : Program) (t : TypeId) (places : outParam (List (Nat × Nat))) (zs : outParam (List Value)) : Prop where
  eq : ∀ parts, P.built t parts = Instr.fill (places.toArray[·]?) zs.toArray parts
theorem Bld.of {t : TypeId} {places : List (Nat × Nat)} {zs : List Value} (h : bldB P t = some (places, zs)) : Bld P t places zs := by
  refine ⟨fun parts => ?_⟩
  unfold bldB at h
  unfold Program.built
  split at h
  · rename_i it fields h1 h2
    rw [h1, h2]
    split at h
    · rename_i z pl h3 h4
      simp only [Option.some.injEq, Prod.mk.injEq] at h
      obtain ⟨rfl, rfl⟩ := h
      simp only [h3, h4]
    · cases h
  · cases h
theorem foldl_put (off : Nat) : ∀ (vs : List Value) (j : Nat) (cs : Array Value), off + j + vs.length ≤ cs.size →
    ((vs.zipIdx j).foldl (fun (cs : Array Value) (x : Value × Nat) => cs.setIfInBounds (off + x.2) x.1) cs).toList = cs.toList.take (off + j) ++ vs ++ cs.toList.drop (off + j + vs.length)
  | [], j, cs, _ => by simp
  | v :: vs, j, cs, h => by
    simp only [List.length_cons] at h
    rw [List.zipIdx_cons, List.foldl_cons, foldl_put off vs (j + 1) _ (by simp; omega)]
    rw [Array.toList_setIfInBounds]
    have hl : off + j < cs.toList.length := by simp; omega
    apply List.ext_getElem?
    intro i
    simp only [List.getElem?_append, List.length_append, List.length_take, List.length_set, List.length_cons, List.getElem?_take, List.getElem?_drop, List.getElem?_set]
    have hsz : cs.toList.length = cs.size := by simp
    by_cases h1 : i < off + j
    · rw [if_pos (by omega), if_pos (by omega), if_pos (by omega), if_neg (by omega), if_pos (by omega), if_pos (by omega), if_pos (by omega)]
    · by_cases h2 : i = off + j
      · subst h2
        rw [if_pos (by omega), if_pos (by omega), if_pos (by omega), if_pos rfl, if_pos (by omega), if_pos (by omega), if_neg (by omega)]
        simp [show off + j - min (off + j) cs.size = 0 from by omega]
      · by_cases h3 : i < off + j + 1 + vs.length
        · rw [if_pos (by omega), if_neg (by omega), if_pos (by omega), if_neg (by omega)]
          rw [show i - min (off + j) cs.toList.length = (i - min (off + (j + 1)) cs.toList.length) + 1 from by omega]
          simp
        · rw [if_neg (by omega), if_neg (by omega), if_neg (by omega)]
          congr 1; omega
def fillG (places : List (Nat × Nat)) : List Value → List (Nat × List Value) → Option (List Value)
  | zs, [] => some zs
  | zs, (i, vs) :: r => match places[i]? with
    | some (off, size) => if vs.length = size ∧ off + size ≤ zs.length then fillG places (zs.take off ++ vs ++ zs.drop (off + size)) r else none
    | none => none
theorem fillG_ok {places : List (Nat × Nat)} : ∀ (ps : List (Nat × Value)) (zs : List Value) (us : List (Nat × List Value)) (cs : List Value), (ps.map fun p => (p.1, p.2.cells.toList)) = us → fillG places zs us = some cs →
    Instr.fill (places.toArray[·]?) zs.toArray ps = some cs.toArray
  | [], zs, us, cs, hu, h => by subst hu; simp only [List.map_nil, fillG, Option.some.injEq] at h; subst h; rfl
  | (i, v) :: ps, zs, us, cs, hu, h => by
    subst hu
    simp only [List.map_cons, fillG] at h
    simp only [Instr.fill]
    have hp : (places.toArray[i]? : Option (Nat × Nat)) = places[i]? := by simp
    rw [hp]
    cases hpl : places[i]? with
    | none => rw [hpl] at h; cases h
    | some os =>
      obtain ⟨off, size⟩ := os
      rw [hpl] at h
      simp only at h ⊢
      split at h
      · rename_i hc
        obtain ⟨h1, h2⟩ := hc
        have hsz : v.cells.size = size := by simpa using h1
        rw [if_neg (by simp [hsz]; omega)]
        have key := foldl_put off v.cells.toList 0 zs.toArray (by simp [hsz]; omega)
        have key2 : (v.cells.zipIdx.foldl (fun (cs : Array Value) (x : Value × Nat) => cs.setIfInBounds (off + x.2) x.1) zs.toArray) = (zs.take off ++ v.cells.toList ++ zs.drop (off + size)).toArray := by
          apply Array.toList_inj.1
          rw [← Array.foldl_toList, Array.toList_zipIdx]
          rw [key]; simp [hsz]
        have key3 : (v.cells.zipIdx.foldl (fun (cs : Array Value) (x : Value × Nat) => match x with | (c, j) => cs.setIfInBounds (off + j) c) zs.toArray) = (zs.take off ++ v.cells.toList ++ zs.drop (off + size)).toArray := key2
        rw [key3]
        exact fillG_ok ps _ _ cs rfl h
      · cases h
theorem Val.buildS {t : TypeId} {parts : Array (Nat × Operand)} {places : List (Nat × Nat)} {zs : List Value} {us : List (Nat × List Value)} {cs : List Value} [hb : Bld P t places zs]
    (hp : ((parts.toList.map fun p => (p.1, ρ p.2)).map fun p => (p.1, p.2.cells.toList)) = us) (hf : fillG places zs us = some cs) : Val P ρ (.build t parts) ty w (.agg cs.toArray) := by
  refine Val.build ?_
  rw [hb.eq]
  have : (parts.map fun p => (p.1, ρ p.2)).toList = parts.toList.map fun p => (p.1, ρ p.2) := by simp
  rw [this]
  exact fillG_ok _ _ _ _ hp hf

/-! ### appending -/
theorem append_none (w : World) {t ty e : TypeId} {i : TypeInfo} {base size n : Nat} {v : Value} {xs : List Value} (ht : P.underlying t = some (.slice e)) (hi : P.info? e = some i) (h : OwnsR w base e size v n xs) : (Builtin.append_ #[t, t] ty #[v, .slice none 0 0]).run P w = .ok v w := by
  rcases h.2 with ⟨rfl, rfl⟩ | ⟨g, cap, cur, fz, rfl, hb, hg, hfz, hnc, hcm, hcs, htake⟩
  · simp [Builtin.append_, run_underlying ht, sizeOf, typeInfo, hi, Builtin.lenOf, Builtin.firstCells, loadCells, loadCellsFrom, storeCells]
  · simp [Builtin.append_, run_underlying ht, sizeOf, typeInfo, hi, Builtin.lenOf, Builtin.firstCells, loadCells, loadCellsFrom, storeCells, hnc]
/-- A row of one's own, and behind it what is read elsewhere. -/
theorem Vals.append {t d : TypeId} {x y : Operand} {esz by_ m : Nat} {z v u : Value} {cs news : List Value} [hu : UTy P t (.slice d)] [hs : Sz P d esz by_ z] (H : Own w0 w (.row v d esz cs :: L)) (hx : ρ x = v) (hy : ρ y = u) (hr : RdC w u esz m news)
    (h1 : ∀ q ∈ news, q.oneCell' = true) (he : 0 < esz) (hz : z.cells.size = esz) (hn : ∀ n, cs.length = n * esz → n + m ≤ maxLen ∧ (n + m) * by_ ≤ 140737488355328) :
    ∃ v' w', Vals P ρ (.call { callee := .builtin .append, args := #[x, y], argTypes := #[t, t] }) ty w v' w' ∧ Own w0 w' (.row v' d esz (cs ++ news) :: L) := by
  obtain ⟨inf, g1, g2, g3, g4⟩ := hs.eq
  obtain ⟨n, hown⟩ := H.holds _ List.mem_cons_self
  obtain ⟨hl, a, cap, rfl, h3, h4, h5, h6⟩ := hr
  obtain ⟨hn1, hn2⟩ := hn n hown.1
  have keyop : ∀ (v' : Value) (w' : World), (Builtin.append_ #[t, t] ty #[v, .slice a m cap]).run P w = .ok v' w' → Vals P ρ (.call { callee := .builtin .append, args := #[x, y], argTypes := #[t, t] }) ty w v' w' := by
    intro v' w' hr
    refine ⟨fun _ _ _ _ => ?_⟩
    simp only [execOp, resolve]
    simp [invoke, builtin, hx, hy, hr]
  cases a with
  | none =>
    obtain ⟨rfl, rfl⟩ := h5 rfl
    have : news = [] := List.eq_nil_of_length_eq_zero (by simpa using hl)
    subst this
    refine ⟨v, w, keyop _ _ (append_none w hu.eq g1 hown), ?_⟩
    simpa using H
  | some ad =>
    have hsp := (h6 ad rfl).1
    have hnews : ∀ j q, news[j]? = some q → w.cell? (ad.add j) = some q := by
      intro j q hq
      have := (h6 ad rfl).2 j q hq
      have hsp := hsp (by
        have hj := (List.getElem?_eq_some_iff.1 hq).1
        rcases Nat.eq_zero_or_pos m with h0 | h0
        · subst h0; rw [hl, Nat.zero_mul] at hj; omega
        · omega)
      obtain ⟨b, o, s⟩ := ad
      simp only at hsp; subst hsp
      simp only [at_] at this
      unfold Addr.add
      by_cases hj : j = 0
      · subst hj; rw [if_pos rfl]; simpa using this
      · rw [if_neg hj]; exact this
    obtain ⟨v', w', r1, r2, r3, r5⟩ := OwnsR.append (P := P) w w0.heap.size t ty d inf z esz by_ hu.eq g1 g4 g2 g3 hz he v n cs hown ad m cap news hl hnews h1 hn1 hn2 H.below.size
    refine ⟨v', w', keyop _ _ r1, ?_⟩
    refine Own.update (A := [.row v d esz cs]) (A' := [.row v' d esz (cs ++ news)]) H ?_ ?_ (List.pairwise_singleton _ _) ?_ ?_ r3.size
    · exact H.below.grown r3 H.below.size (fun k hk => (hown.lt k hk).1)
    · intro r hr
      simp only [List.mem_singleton] at hr; subst hr
      exact ⟨n + m, r2⟩
    · intro r hr k hk
      simp only [List.mem_singleton] at hr; subst hr
      simp only [Res.foot] at hk
      rcases r5 with h | h
      · exact .inl ⟨_, List.mem_singleton.2 rfl, by simp only [Res.foot]; rw [← h]; exact hk⟩
      · rw [h] at hk; cases hk; exact .inr (Nat.le_refl _)
    · intro k hk hne
      exact r3.block k hk (fun e => hne _ (List.mem_singleton.2 rfl) (by simp only [Res.foot]; exact e.symm))

/-! ### a constant's bytes: from here on they are read alone -/
theorem heap_freeze_other (w : World) (a : Addr) (m k : Nat) (h : k ≠ a.block) : (w.freeze a m).heap[k]? = w.heap[k]? := by
  unfold World.freeze
  split
  · rfl
  · simp only [Array.getElem?_modify]
    rw [if_neg (fun e => h e.symm)]
theorem cell_freeze (w : World) (a b : Addr) (m : Nat) : (w.freeze a m).cell? b = w.cell? b := by
  unfold World.freeze
  split
  · rfl
  · simp only [World.cell?, Array.getElem?_modify]
    by_cases hb : a.block = b.block
    · rw [if_pos hb]
      cases h : w.heap[b.block]? with
      | none => rfl
      | some o => cases o <;> rfl
    · rw [if_neg hb]
theorem Vals.convSame {t d : TypeId} {x : Operand} {v : Value} {n : Nat} {cs : List Value} [hu : UTy P t (.slice d)] [hd : UTy P d (.int .u8)] (hx : ρ x = v) (hn : cs.length = n) (hn0 : 0 < n) (H : Own w0 w (.row v d 1 cs :: L)) :
    ∃ w', Vals P ρ (.convert t t x) ty w v w' ∧ Own w0 w' (.ro v 1 n cs :: L) := by
  have hr : RdC w v 1 n cs := H.has.row List.mem_cons_self n (by omega) (by omega)
  obtain ⟨m, hrow⟩ := H.holds _ List.mem_cons_self
  rcases hrow.2 with ⟨rfl, rfl⟩ | ⟨g, cap, cur, fz, rfl, hb, hg, hfz, hnc, hcm, hcs, htake⟩
  · have := hrow.1; simp at this; subst this; simp at hn; omega
  · have hsh : w.shape? g = some (d, cur.size) := by simp [World.shape?, hg]
    refine ⟨w.freeze ⟨g, cur.size, none⟩ 1, ⟨fun _ _ _ _ => ?_⟩, ?_⟩
    · simp only [execOp, hx]
      refine run_value ?_
      simp [convert, run_underlying hu.eq, run_underlying hd.eq, markStringish, shape, freeze, Sem.run, hsh]
    · refine Own.update (A := [.row _ d 1 cs]) (A' := [.ro _ 1 n cs]) H ?_ ?_ (List.pairwise_singleton _ _) ?_ ?_ (by simp [World.freeze])
      · refine H.below.trans ⟨rfl, rfl, rfl, ?_, fun k hk => heap_freeze_other _ _ _ _ (fun e => by simp at e; omega)⟩
        simp [World.freeze]
      · intro r hr'
        simp only [List.mem_singleton] at hr'; subst hr'
        refine ⟨?_, fun k hk => ?_⟩
        · obtain ⟨h1, a, c, he, h2, h3, h4, h5⟩ := hr
          exact ⟨h1, a, c, he, h2, h3, h4, fun ad had => ⟨(h5 ad had).1, fun i u hiu => by rw [cell_freeze]; exact (h5 ad had).2 i u hiu⟩⟩
        · simp [Value.ownBlock] at hk; subst hk
          refine ⟨hb, ?_⟩
          have := (Array.getElem?_eq_some_iff.1 hg).1
          simpa [World.freeze] using this
      · intro r hr' k hk
        simp only [List.mem_singleton] at hr'; subst hr'
        exact .inl ⟨_, List.mem_singleton.2 rfl, hk⟩
      · intro k hk hne
        refine heap_freeze_other _ _ _ _ (fun e => hne _ (List.mem_singleton.2 rfl) (by simp [Res.foot, Value.ownBlock, e]))

/-! ### small ones -/
theorem Val.min2 {x y : Operand} {k k' : IntKind} {a b : Int} {ats : Array TypeId} (hx : ρ x = .int k a) (hy : ρ y = .int k' b) : Val P ρ (.call { callee := .builtin .min, args := #[x, y], argTypes := ats }) ty w (.int k (min a b)) := by
  refine ⟨fun _ _ _ _ => ?_⟩
  have hm : (if b < a then b else a) = min a b := by omega
  simp only [execOp, resolve]
  simp [invoke, builtin, hx, hy, run_min_int2, hm]
theorem Val.max2 {x y : Operand} {k k' : IntKind} {a b : Int} {ats : Array TypeId} (hx : ρ x = .int k a) (hy : ρ y = .int k' b) : Val P ρ (.call { callee := .builtin .max, args := #[x, y], argTypes := ats }) ty w (.int k (max a b)) := by
  refine ⟨fun _ _ _ _ => ?_⟩
  have hm : (if a < b then b else a) = max a b := by omega
  simp only [execOp, resolve]
  simp [invoke, builtin, hx, hy, run_max_int2, hm]
theorem Val.extract {x : Operand} {vs : Array Value} {i : Nat} {u : Value} (hx : ρ x = .tuple vs) (hu : vs[i]? = some u) : Val P ρ (.extract x i) ty w u := by
  refine ⟨fun _ _ _ _ => ?_⟩
  simp only [execOp, hx]
  refine run_value ?_
  simp [Instr.extract, hu]
theorem Val.eqlNilP {t d : TypeId} {x y : Operand} {yt : TypeId} {a : Option Addr} [hu : UTy P t (.pointer d)] (hx : ρ x = .pointer a) (hy : ρ y = .pointer none) : Val P ρ (.binOp .eql t x y yt) ty w (.bool a.isNone) := by
  refine ⟨fun _ _ _ _ => ?_⟩
  simp only [execOp, hx, hy]
  have h1 : (binOp .eql t (.pointer a) (.pointer none)).run P w = .ok (.bool a.isNone) w := by
    rw [run_eql_pointer_nil w t a (by rw [hu.eq]; simp [Program.pointee, hu.eq])]
  refine run_value ?_
  simp [eqGuard, h1]
theorem Val.neqNilP {t d : TypeId} {x y : Operand} {yt : TypeId} {a : Option Addr} [hu : UTy P t (.pointer d)] (hx : ρ x = .pointer a) (hy : ρ y = .pointer none) : Val P ρ (.binOp .neq t x y yt) ty w (.bool !a.isNone) := by
  refine ⟨fun _ _ _ _ => ?_⟩
  simp only [execOp, hx, hy]
  have h1 : (binOp .neq t (.pointer a) (.pointer none)).run P w = .ok (.bool !a.isNone) w := by
    rw [run_neq_pointer_nil w t a (by rw [hu.eq]; simp [Program.pointee, hu.eq])]
  refine run_value ?_
  simp [eqGuard, h1]
end
end Go.Proofs.Ytcibdcfdchpnpaa.X
