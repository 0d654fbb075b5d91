/- Structs: stored, written out in slices, appended, compared. Nothing is assumed. -/
import Derived.Test.YtcibdcfdchpnpaaX9
namespace Go.Proofs.Ytcibdcfdchpnpaa.X
open Go Go.RowKit
set_option linter.unusedSimpArgs false
set_option linter.unusedVariables false

/-- A block in the list becomes another one, whole. -/
inductive SetWhole : List Res → Nat → List Value → List Res → Prop
  | here {b : Nat} {ty : TypeId} {cs cs' : List Value} {L : List Res} (hl : cs.length = cs'.length) : SetWhole (.box b ty cs :: L) b cs' (.box b ty cs' :: L)
  | there {x : Res} {b : Nat} {cs' : List Value} {L L' : List Res} (h : SetWhole L b cs' L') : SetWhole (x :: L) b cs' (x :: L')
theorem SetWhole.split {b : Nat} {cs' : List Value} {L L' : List Res} (h : SetWhole L b cs' L') : ∃ ty cs M, cs.length = cs'.length ∧ L.Perm (.box b ty cs :: M) ∧ L'.Perm (.box b ty cs' :: M) := by
  induction h with
  | here hl => exact ⟨_, _, _, hl, List.Perm.refl _, List.Perm.refl _⟩
  | @there x b cs' L L' _ ih =>
    obtain ⟨ty, cs, M, hl, h1, h2⟩ := ih
    exact ⟨ty, cs, x :: M, hl, (List.Perm.cons _ h1).trans (List.Perm.swap _ _ _), (List.Perm.cons _ h2).trans (List.Perm.swap _ _ _)⟩

theorem fill_rows (esz : Nat) : ∀ (us : List Value) (i0 : Nat) (cells : Array Value), (∀ u ∈ us, u.cells.size = esz) → (i0 + us.length) * esz ≤ cells.size →
    Instr.fill (fun i => some (i * esz, esz)) cells ((us.zipIdx i0).map fun p => (p.2, p.1)) = some (cells.toList.take (i0 * esz) ++ us.flatMap (·.cells.toList) ++ cells.toList.drop ((i0 + us.length) * esz)).toArray
  | [], i0, cells, _, _ => by simp [Instr.fill]
  | u :: us, i0, cells, h, hl => by
    have hu : u.cells.size = esz := h u List.mem_cons_self
    have hm : (i0 + (us.length + 1)) * esz = i0 * esz + esz + us.length * esz := by rw [Nat.add_mul, Nat.add_mul]; omega
    simp only [List.length_cons, hm] at hl
    have key := foldl_put (i0 * esz) u.cells.toList 0 cells (by simp [hu]; omega)
    have key2 : (u.cells.zipIdx.foldl (fun (cs : Array Value) (x : Value × Nat) => match x with | (c, j) => cs.setIfInBounds (i0 * esz + j) c) cells) = (cells.toList.take (i0 * esz) ++ u.cells.toList ++ cells.toList.drop (i0 * esz + esz)).toArray := by
      apply Array.toList_inj.1
      rw [← Array.foldl_toList, Array.toList_zipIdx]
      have : (fun (cs : Array Value) (x : Value × Nat) => match x with | (c, j) => cs.setIfInBounds (i0 * esz + j) c) = (fun (cs : Array Value) (x : Value × Nat) => cs.setIfInBounds (i0 * esz + x.2) x.1) := by funext cs x; rfl
      rw [this, key]; simp [hu]
    simp only [List.zipIdx_cons, List.map_cons, Instr.fill]
    rw [if_neg (by simp [hu]; omega), key2, fill_rows esz us (i0 + 1) _ (fun v hv => h v (List.mem_cons_of_mem _ hv)) (by
      have e1 : (i0 + 1 + us.length) * esz = i0 * esz + esz + us.length * esz := by rw [Nat.add_mul, Nat.add_mul]; omega
      rw [e1]; simp [hu]; omega)]
    congr 2
    have e1 : (i0 + 1 + us.length) * esz = i0 * esz + esz + us.length * esz := by rw [Nat.add_mul, Nat.add_mul]; omega
    have e2 : (i0 + 1) * esz = i0 * esz + esz := by rw [Nat.add_mul, Nat.one_mul]
    have e3 : (i0 + (us.length + 1)) * esz = i0 * esz + esz + us.length * esz := hm
    have hlen : (cells.toList.take (i0 * esz) ++ u.cells.toList).length = i0 * esz + esz := by
      rw [List.length_append, List.length_take]; simp [hu]; omega
    simp only [List.length_cons, e1, e2, e3, List.flatMap_cons]
    rw [List.take_append_of_le_length (by rw [hlen]; omega), List.take_of_length_le (by rw [hlen]; omega)]
    rw [show i0 * esz + esz + us.length * esz = (i0 * esz + esz) + us.length * esz from rfl, ← hlen, List.drop_append]
    simp [List.append_assoc, List.drop_drop]

section
variable {P : Program} {ρ : Operand → Value} {ty : TypeId} {w w0 : World} {L : List Res}
theorem run_buildSliceK {t d : TypeId} {esz by_ : Nat} {z : Value} [hu : UTy P t (.slice d)] [hs : Sz P d esz by_ z] (us : List Value) (h1 : ∀ u ∈ us, u.cells.size = esz) (hz : z.cells.size = esz) (he : 0 < esz) (hn : us.length * esz ≤ 65536) :
    ∃ cs : Array Value, cs.toList = us.flatMap (·.cells.toList) ∧ (Instr.buildSlice t us.length ((us.zipIdx 0).map fun p => (p.2, p.1)).toArray).run P w = .ok (.slice (some ⟨w.heap.size, 0, none⟩) us.length us.length) (w.alloc (.cells cs d)) := by
  obtain ⟨inf, g1, g2, g3, g4⟩ := hs.eq
  have hfill : ∀ cells : Array Value, cells.size = us.length * esz → Instr.fill (fun i => some (i * esz, esz)) cells ((us.zipIdx 0).map fun p => (p.2, p.1)) = some (us.flatMap (·.cells.toList)).toArray := by
    intro cells hc
    have := fill_rows esz us 0 cells h1 (by rw [Nat.zero_add, hc]; exact Nat.le_refl _)
    rw [this]
    have : cells.toList.drop ((0 + us.length) * esz) = [] := List.drop_of_length_le (by simp [hc])
    rw [this]; simp
  refine ⟨(us.flatMap (·.cells.toList)).toArray, by simp, ?_⟩
  have hlim : ¬ (us.length * esz > 2 ^ 24) := by omega
  unfold Instr.buildSlice
  simp only [Sem.run_bind, run_underlying hu.eq, Result.andThen, sizeOf, typeInfo, program]
  by_cases h0 : us.length = 0
  · have : us = [] := List.eq_nil_of_length_eq_zero h0
    subst this
    simp [Sem.run, g1, g2, Instr.fill, newRow, newObj, Array.range_zero']
  · have hpos : us.length * esz ≠ 0 := Nat.mul_ne_zero h0 (by omega)
    have o1' := hfill ((Array.range (us.length * esz)).map fun i => z.cells[i % z.cells.size]!) (by simp)
    simp [Sem.run, g1, g2, g4, hpos, hlim, zeroValue, typeInfo, program] at o1' ⊢
    simp [Sem.run, o1', newRow, newObj]
theorem Vals.buildSliceK {t d : TypeId} {esz by_ n : Nat} {z : Value} [hu : UTy P t (.slice d)] [hs : Sz P d esz by_ z] {parts : Array (Nat × Operand)} {us : List Value} (hp : (parts.map fun p => (p.1, ρ p.2)) = ((us.zipIdx 0).map fun p => (p.2, p.1)).toArray) (hn' : n = us.length)
    (h1 : ∀ u ∈ us, u.cells.size = esz) (hz : z.cells.size = esz) (he : 0 < esz) (hn : us.length * esz ≤ 65536) (H : Own w0 w L) :
    ∃ v w', Vals P ρ (.buildSlice t n parts) ty w v w' ∧ Own w0 w' (.row v d esz (us.flatMap (·.cells.toList)) :: L) := by
  obtain ⟨cs, hc, hr⟩ := run_buildSliceK (P := P) (w := w) (t := t) (hu := hu) (hs := hs) us h1 hz he hn
  refine ⟨.slice (some ⟨w.heap.size, 0, none⟩) us.length us.length, w.alloc (.cells cs d), ⟨fun _ _ _ _ => ?_⟩, ?_⟩
  · simp only [execOp]
    refine run_value ?_
    subst hn'
    have : (parts.map fun (i, x) => (i, ρ x)) = ((us.zipIdx 0).map fun p => (p.2, p.1)).toArray := hp
    rw [this]; exact hr
  · have hlen : ∀ (us : List Value), (∀ u ∈ us, u.cells.size = esz) → (us.flatMap (·.cells.toList)).length = us.length * esz := by
      intro us
      induction us with
      | nil => intro _; simp
      | cons u us ih =>
        intro h
        simp only [List.flatMap_cons, List.length_append, ih (fun v hv => h v (List.mem_cons_of_mem _ hv)), List.length_cons, Nat.add_mul]
        have := h u List.mem_cons_self
        simp [this]; omega
    have hsz : cs.size = us.length * esz := by
      have : cs.toList.length = us.length * esz := by rw [hc]; exact hlen us h1
      simpa using this
    have hle : us.length ≤ us.length * esz := Nat.le_mul_of_pos_right _ he
    have := H.newRow cs d esz us.length hsz (by simp only [maxLen]; omega)
    rwa [hc] at this
end

section
variable {P : Program} {n : Nat} {Q : Post} {e : Env} {w w0 : World} {ops : Array Oper} {rest : List Oper} {dst : Option Tmp} {ty : TypeId} {pos : String} {after : Array Edge} {L L' : List Res}
theorem agg_size {cs : List Value} : (Value.agg cs.toArray).cells.toList = cs := by simp [Value.cells]

theorem O.storeAgg {t : TypeId} {x y : Operand} {b m : Nat} {cs' : List Value} [AggTy P t m] (hx : ev n e x = .pointer (some ⟨b, 0, none⟩)) (hy : ev n e y = .agg cs'.toArray) (hn : cs'.length = m) (h1 : ∀ u ∈ cs', u.oneCell' = true) (H : Own w0 w L) (hs : SetWhole L b cs' L')
    (h : ∀ w, Own w0 w L' → O P n ops Q rest (putd e dst undef) w) : O P n ops Q (⟨dst, .store t x y, ty, pos, after, none⟩ :: rest) e w := by
  obtain ⟨bt, cs, M, hl, p1, p2⟩ := hs.split
  obtain ⟨w', hv, H'⟩ := Own.setAll (P := P) (ρ := ev n e) (ty := ty) (t := t) (H.perm p1) hx hy hn (by omega) h1
  exact O.skips hv (h _ (H'.perm p2.symm))
theorem O.buildSliceK {α : Type} {t d : TypeId} {esz by_ m : Nat} {z : Value} {f : α → List Value} {xs : List α} [hE : Esz f esz] [UTy P t (.slice d)] [Sz P d esz by_ z] {ps : List (Nat × Operand)} (hp : Parts n e 0 ps (xs.map fun x => .agg (f x).toArray)) (hm : m = xs.length)
    (hz : z.cells.size = esz) (he : 0 < esz) (hn : xs.length * esz ≤ 65536) (H : Own w0 w L)
    (h : ∀ v w, Own w0 w (rowK v d esz f xs :: L) → O P n ops Q rest (putd e dst v) w) : O P n ops Q (⟨dst, .buildSlice t m ps.toArray, ty, pos, after, none⟩ :: rest) e w := by
  obtain ⟨v, w', hv, H'⟩ := Vals.buildSliceK (P := P) (ρ := ev n e) (ty := ty) (t := t) (d := d) (n := m) (parts := ps.toArray) (us := xs.map fun x => .agg (f x).toArray) (hp2 (by simpa [Parts] using hp)) (by simpa using hm) (fun u hu => by
    obtain ⟨x, hx, rfl⟩ := List.mem_map.1 hu; simp [Value.cells, hE.eq]) hz he (by simpa using hn) H
  refine O.vals hv (h _ _ ?_)
  have e1 : (xs.map fun x => Value.agg (f x).toArray).flatMap (·.cells.toList) = xs.flatMap f := by
    rw [List.flatMap_map]; simp [Value.cells]
  rwa [e1] at H'
theorem O.appendK {α : Type} {t d : TypeId} {x y : Operand} {esz by_ : Nat} {z v u : Value} {f : α → List Value} {xs ys : List α} [hE : Esz f esz] [UTy P t (.slice d)] [Sz P d esz by_ z] (hx : ev n e x = v) (hy : ev n e y = u) (H : Own w0 w L) (hp : Pull L (rowK v d esz f xs) L') (hr : RdCK w u esz f ys)
    (h1 : ∀ x ∈ ys, ∀ q ∈ f x, q.oneCell' = true) (he : 0 < esz) (hz : z.cells.size = esz) (hn : xs.length + ys.length ≤ 9223372036854775807 ∧ (xs.length + ys.length) * by_ ≤ 140737488355328)
    (h : ∀ v w, Own w0 w (rowK v d esz f (xs ++ ys) :: L') → O P n ops Q rest (putd e dst v) w) : O P n ops Q (⟨dst, .call { callee := .builtin .append, args := #[x, y], argTypes := #[t, t] }, ty, pos, after, none⟩ :: rest) e w := by
  obtain ⟨v', w', hv, H'⟩ := Vals.append (P := P) (ρ := ev n e) (ty := ty) (t := t) (H.pull hp) hx hy hr (fun q hq => by
    obtain ⟨x, hx, hq⟩ := List.mem_flatMap.1 hq; exact h1 x hx q hq) he hz (fun n hn' => by
    have : n = xs.length := by
      rw [flatMap_len] at hn'; exact (Nat.eq_of_mul_eq_mul_right he hn'.symm)
    subst this; exact ⟨by simp only [maxLen]; omega, hn.2⟩)
  refine O.vals hv (h _ _ ?_)
  rw [← List.flatMap_append] at H'; exact H'
theorem O.appendKNil {α : Type} {t d : TypeId} {x y : Operand} {esz by_ : Nat} {z u : Value} {f : α → List Value} {ys : List α} [hE : Esz f esz] [UTy P t (.slice d)] [Sz P d esz by_ z] (hx : ev n e x = .slice none 0 0) (hy : ev n e y = u) (H : Own w0 w L) (hr : RdCK w u esz f ys)
    (h1 : ∀ x ∈ ys, ∀ q ∈ f x, q.oneCell' = true) (he : 0 < esz) (hz : z.cells.size = esz) (hn : ys.length ≤ 9223372036854775807 ∧ ys.length * by_ ≤ 140737488355328)
    (h : ∀ v w, Own w0 w (rowK v d esz f ys :: L) → O P n ops Q rest (putd e dst v) w) : O P n ops Q (⟨dst, .call { callee := .builtin .append, args := #[x, y], argTypes := #[t, t] }, ty, pos, after, none⟩ :: rest) e w := by
  refine O.appendK (xs := []) hx hy (H.nilRow d esz) Pull.here hr h1 he hz (by simpa using hn) ?_
  intro v w H
  exact h v w (by simpa using H)

variable {S : World → Prop} {need : List Nat} {p : Plan} {keep : Bool}
theorem DW.storeAgg {t : TypeId} {x y : Operand} {b m : Nat} {cs' : List Value} [AggTy P t m] (hx : ev n e x = .pointer (some ⟨b, 0, none⟩)) (hy : ev n e y = .agg cs'.toArray) (hn : cs'.length = m) (h1 : ∀ u ∈ cs', u.oneCell' = true) (H : Own w0 w L) (hs : SetWhole L b cs' L')
    (h : ∀ w', Own w0 w' L' → (keep = true → S w → S w') ∧ D P n ops Q S need p (putd e dst undef) w') : DW P n ops Q S need ⟨dst, .store t x y, ty, pos, after, none⟩ keep p e w := by
  obtain ⟨bt, cs, M, hl, p1, p2⟩ := hs.split
  obtain ⟨w', hv, H'⟩ := Own.setAll (P := P) (ρ := ev n e) (ty := ty) (t := t) (H.perm p1) hx hy hn (by omega) h1
  exact DW.skips hv (h _ (H'.perm p2.symm)).1 (h _ (H'.perm p2.symm)).2
theorem DW.alloc {t : TypeId} {s b : Nat} {z : Value} {cs : List Value} [Sz P t s b z] (hcs : z.cells.toList = cs) (H : Own w0 w L) (h : ∀ b w', Own w0 w' (.box b t cs :: L) → (keep = true → S w → S w') ∧ D P n ops Q S need p (putd e dst (.pointer (some ⟨b, 0, none⟩))) w') :
    DW P n ops Q S need ⟨dst, .alloc t, ty, pos, after, none⟩ keep p e w := by
  have H' := H.alloc z.cells t
  rw [hcs] at H'
  exact DW.vals Vals.alloc (h _ _ H').1 (h _ _ H').2
theorem DW.buildSliceK {α : Type} {t d : TypeId} {esz by_ m : Nat} {z : Value} {f : α → List Value} {xs : List α} [hE : Esz f esz] [UTy P t (.slice d)] [Sz P d esz by_ z] {ps : List (Nat × Operand)} (hp : Parts n e 0 ps (xs.map fun x => .agg (f x).toArray)) (hm : m = xs.length)
    (hz : z.cells.size = esz) (he : 0 < esz) (hn : xs.length * esz ≤ 65536) (H : Own w0 w L)
    (h : ∀ v w', Own w0 w' (rowK v d esz f xs :: L) → (keep = true → S w → S w') ∧ D P n ops Q S need p (putd e dst v) w') : DW P n ops Q S need ⟨dst, .buildSlice t m ps.toArray, ty, pos, after, none⟩ keep p e w := by
  obtain ⟨v, w', hv, H'⟩ := Vals.buildSliceK (P := P) (ρ := ev n e) (ty := ty) (t := t) (d := d) (n := m) (parts := ps.toArray) (us := xs.map fun x => .agg (f x).toArray) (hp2 (by simpa [Parts] using hp)) (by simpa using hm) (fun u hu => by
    obtain ⟨x, hx, rfl⟩ := List.mem_map.1 hu; simp [Value.cells, hE.eq]) hz he (by simpa using hn) H
  have e1 : (xs.map fun x => Value.agg (f x).toArray).flatMap (·.cells.toList) = xs.flatMap f := by
    rw [List.flatMap_map]; simp [Value.cells]
  rw [e1] at H'
  exact DW.vals hv (h _ _ H').1 (h _ _ H').2
theorem DW.appendK {α : Type} {t d : TypeId} {x y : Operand} {esz by_ : Nat} {z v u : Value} {f : α → List Value} {xs ys : List α} [hE : Esz f esz] [UTy P t (.slice d)] [Sz P d esz by_ z] (hx : ev n e x = v) (hy : ev n e y = u) (H : Own w0 w L) (hp : Pull L (rowK v d esz f xs) L') (hr : RdCK w u esz f ys)
    (h1 : ∀ x ∈ ys, ∀ q ∈ f x, q.oneCell' = true) (he : 0 < esz) (hz : z.cells.size = esz) (hn : xs.length + ys.length ≤ 9223372036854775807 ∧ (xs.length + ys.length) * by_ ≤ 140737488355328)
    (h : ∀ v w', Own w0 w' (rowK v d esz f (xs ++ ys) :: L') → (keep = true → S w → S w') ∧ D P n ops Q S need p (putd e dst v) w') : DW P n ops Q S need ⟨dst, .call { callee := .builtin .append, args := #[x, y], argTypes := #[t, t] }, ty, pos, after, none⟩ keep p e w := by
  obtain ⟨v', w', hv, H'⟩ := Vals.append (P := P) (ρ := ev n e) (ty := ty) (t := t) (H.pull hp) hx hy hr (fun q hq => by
    obtain ⟨x, hx, hq⟩ := List.mem_flatMap.1 hq; exact h1 x hx q hq) he hz (fun n hn' => by
    have : n = xs.length := by
      rw [flatMap_len] at hn'; exact (Nat.eq_of_mul_eq_mul_right he hn'.symm)
    subst this; exact ⟨by simp only [maxLen]; omega, hn.2⟩)
  rw [← List.flatMap_append] at H'
  exact DW.vals hv (h _ _ H').1 (h _ _ H').2
theorem DW.appendNil {α : Type} {t d : TypeId} {x y : Operand} {by_ : Nat} {z u : Value} {f : α → Value} {ys : List α} [UTy P t (.slice d)] [Sz P d 1 by_ z] (hx : ev n e x = .slice none 0 0) (hy : ev n e y = u) (H : Own w0 w L) (hr : RdC1 w u f ys)
    (h1 : ∀ x ∈ ys, (f x).oneCell' = true) (hz : z.cells.size = 1) (hn : ys.length ≤ 9223372036854775807 ∧ ys.length * by_ ≤ 140737488355328)
    (h : ∀ v w', Own w0 w' (row1 v d f ys :: L) → (keep = true → S w → S w') ∧ D P n ops Q S need p (putd e dst v) w') : DW P n ops Q S need ⟨dst, .call { callee := .builtin .append, args := #[x, y], argTypes := #[t, t] }, ty, pos, after, none⟩ keep p e w := by
  refine DW.append (xs := []) hx hy (H.nilRow d 1) Pull.here hr h1 hz (by simpa using hn) ?_
  intro v w' H
  exact h v w' (by simpa using H)
end

/-! ### structs alike -/
class EqK (P : Program) (t : TypeId) {α : Type} (f : α → List Value) : Prop where
  eq : ∀ (x y : α) (w : World), ∃ b : Bool, (b = true ↔ x = y) ∧ (Op.equalIn 10000 t (.agg (f x).toArray) (.agg (f y).toArray)).run P w = .ok b w
  guard : P.eqGuardType P.depth t = false
section
variable {P : Program} {ρ : Operand → Value} {ty : TypeId} {w : World}
theorem Val.eqlK {α : Type} [DecidableEq α] {t yt : TypeId} {f : α → List Value} [h : EqK P t f] {x y : Operand} (a b : α) (hx : ρ x = .agg (f a).toArray) (hy : ρ y = .agg (f b).toArray) : Val P ρ (.binOp .eql t x y yt) ty w (.bool (decide (a = b))) := by
  refine ⟨fun _ _ _ _ => ?_⟩
  obtain ⟨c, hc, hr⟩ := h.eq a b w
  have : c = decide (a = b) := by rw [Bool.eq_iff_iff, hc]; simp
  subst this
  simp only [execOp, hx, hy]
  have h1 := run_eql_struct (P := P) w t (f a).toArray (f b).toArray
  rw [hr] at h1
  refine run_value ?_
  rw [Sem.run_bind, run_eqGuard_agg w .eql t x y _ _ h.guard]
  exact h1
theorem Val.neqK {α : Type} [DecidableEq α] {t yt : TypeId} {f : α → List Value} [h : EqK P t f] {x y : Operand} (a b : α) (hx : ρ x = .agg (f a).toArray) (hy : ρ y = .agg (f b).toArray) : Val P ρ (.binOp .neq t x y yt) ty w (.bool (decide (a ≠ b))) := by
  refine ⟨fun _ _ _ _ => ?_⟩
  obtain ⟨c, hc, hr⟩ := h.eq a b w
  have : (!c) = decide (a ≠ b) := by
    have : c = decide (a = b) := by rw [Bool.eq_iff_iff, hc]; simp
    rw [this]; simp
  simp only [execOp, hx, hy]
  have h1 := run_neq_struct (P := P) w t (f a).toArray (f b).toArray
  rw [hr] at h1
  refine run_value ?_
  rw [Sem.run_bind, run_eqGuard_agg w .neq t x y _ _ h.guard, ← this]
  exact h1
end
end Go.Proofs.Ytcibdcfdchpnpaa.X
