/- The list of what is owned: finding, turning, dropping; operations over it. Nothing is assumed. -/
import Derived.Test.YtcibdcfdchpnpaaX5
namespace Go.Proofs.Ytcibdcfdchpnpaa.X
open Go Go.RowKit
set_option linter.unusedSimpArgs false
set_option linter.unusedVariables false

inductive Pull : List Res → Res → List Res → Prop
  | here {r : Res} {L : List Res} : Pull (r :: L) r L
  | there {x r : Res} {L L' : List Res} (h : Pull L r L') : Pull (x :: L) r (x :: L')
theorem Pull.perm {L L' : List Res} {r : Res} (h : Pull L r L') : L.Perm (r :: L') := by
  induction h with
  | here => exact List.Perm.refl _
  | there _ ih => exact (List.Perm.cons _ ih).trans (List.Perm.swap _ _ _)
theorem Own.pull {w0 w : World} {L L' : List Res} {r : Res} (H : Own w0 w L) (h : Pull L r L') : Own w0 w (r :: L') := H.perm h.perm
theorem Pull.mem {L L' : List Res} {r : Res} (h : Pull L r L') : r ∈ L := h.perm.mem_iff.2 List.mem_cons_self

inductive Picks : List Res → List Res → Prop
  | refl {L : List Res} : Picks L L
  | cons {L L' T : List Res} {r : Res} (h : Pull L r L') (t : Picks L' T) : Picks L (r :: T)
  | drop {x : Res} {L T : List Res} (t : Picks L T) : Picks (x :: L) T
theorem Own.picks {w0 w : World} {L T : List Res} (H : Own w0 w L) (h : Picks L T) : Own w0 w T := by
  have key : ∃ G, L.Perm (G ++ T) := by
    clear H
    induction h with
    | refl => exact ⟨[], List.Perm.refl _⟩
    | @cons L L' T r h t ih =>
      obtain ⟨G, hG⟩ := ih
      exact ⟨G, h.perm.trans ((List.Perm.cons _ hG).trans List.perm_middle.symm)⟩
    | @drop x L T t ih => obtain ⟨G, hG⟩ := ih; exact ⟨x :: G, List.Perm.cons _ hG⟩
  obtain ⟨G, hG⟩ := key
  exact (H.perm hG).sub (List.sublist_append_right G T)
theorem Own.nil1 {α : Type} {w0 w : World} {L : List Res} (H : Own w0 w L) (ty : TypeId) (f : α → Value) : Own w0 w (row1 (.slice none 0 0) ty f [] :: L) := H.nilRow ty 1
theorem Sub.cons {x : Res} {L L' : List Res} (h : ∀ r ∈ L', r ∈ L) : ∀ r ∈ L', r ∈ x :: L := fun r hr => List.mem_cons_of_mem _ (h r hr)
theorem Sub.refl {L : List Res} : ∀ r ∈ L, r ∈ L := fun _ h => h
theorem Sub.both {x : Res} {L L' : List Res} (h : ∀ r ∈ L', r ∈ L) : ∀ r ∈ x :: L', r ∈ x :: L := fun r hr => by
  rcases List.mem_cons.1 hr with rfl | hr
  · exact List.mem_cons_self
  · exact List.mem_cons_of_mem _ (h r hr)
theorem Sub.nil {L : List Res} : ∀ r ∈ ([] : List Res), r ∈ L := fun _ h => by cases h
theorem Sub.mem {x : Res} {L L' : List Res} (hx : x ∈ L) (h : ∀ r ∈ L', r ∈ L) : ∀ r ∈ x :: L', r ∈ L := fun r hr => by
  rcases List.mem_cons.1 hr with rfl | hr
  · exact hx
  · exact h r hr

/-- A cell of a block in the list is turned. -/
inductive SetBox : List Res → Nat → Nat → Value → List Res → Prop
  | here {b : Nat} {ty : TypeId} {cs : List Value} {i : Nat} {u : Value} {L : List Res} : SetBox (.box b ty cs :: L) b i u (.box b ty (cs.set i u) :: L)
  | there {x : Res} {b i : Nat} {u : Value} {L L' : List Res} (h : SetBox L b i u L') : SetBox (x :: L) b i u (x :: L')
theorem SetBox.split {b i : Nat} {u : Value} {L L' : List Res} (h : SetBox L b i u L') : ∃ ty cs M, L.Perm (.box b ty cs :: M) ∧ L'.Perm (.box b ty (cs.set i u) :: M) := by
  induction h with
  | here => exact ⟨_, _, _, List.Perm.refl _, List.Perm.refl _⟩
  | @there x b i u L L' _ ih =>
    obtain ⟨ty, cs, M, h1, h2⟩ := ih
    exact ⟨ty, cs, x :: M, (List.Perm.cons _ h1).trans (List.Perm.swap _ _ _), (List.Perm.cons _ h2).trans (List.Perm.swap _ _ _)⟩
theorem Own.setBoxAt {w0 w : World} {L L' : List Res} {b i : Nat} {u : Value} (H : Own w0 w L) (h : SetBox L b i u L') : Own w0 (w.setCell ⟨b, i, none⟩ u) L' := by
  obtain ⟨ty, cs, M, h1, h2⟩ := h.split
  exact ((H.perm h1).setBox i u).perm h2.symm

/-- An element of a row in the list is turned. -/
inductive SetRow {α : Type} : List Res → Value → Nat → (α → Value) → α → List Res → Prop
  | here {v : Value} {ty : TypeId} {f : α → Value} {xs : List α} {j : Nat} {x : α} {L : List Res} (hj : j < xs.length) : SetRow (row1 v ty f xs :: L) v j f x (row1 v ty f (xs.set j x) :: L)
  | there {y : Res} {v : Value} {f : α → Value} {j : Nat} {x : α} {L L' : List Res} (h : SetRow L v j f x L') : SetRow (y :: L) v j f x (y :: L')
theorem Own.setRowAt {α : Type} {w0 w : World} {L L' : List Res} {v : Value} {j : Nat} {f : α → Value} {x : α} (H : Own w0 w L) (h : SetRow L v j f x L') :
    Own w0 (w.setCell (at_ v j) (f x)) L' ∧ (∃ o, w.cell? (at_ v j) = some o) ∧ w.frozen? (at_ v j) = false := by
  have key : ∃ ty xs M, j < xs.length ∧ L.Perm (row1 v ty f xs :: M) ∧ L'.Perm (row1 v ty f (xs.set j x) :: M) := by
    clear H
    induction h with
    | here hj => exact ⟨_, _, _, hj, List.Perm.refl _, List.Perm.refl _⟩
    | @there y v f j x L L' _ ih =>
      obtain ⟨ty, xs, M, hj, h1, h2⟩ := ih
      exact ⟨ty, xs, y :: M, hj, (List.Perm.cons _ h1).trans (List.Perm.swap _ _ _), (List.Perm.cons _ h2).trans (List.Perm.swap _ _ _)⟩
  obtain ⟨ty, xs, M, hj, h1, h2⟩ := key
  obtain ⟨g1, g2, g3⟩ := (H.perm h1).setRow j (by simpa using hj) (f x)
  refine ⟨?_, g2, g3⟩
  rw [← List.map_set] at g1
  exact g1.perm h2.symm

/-- To a row in the list something is appended. -/
inductive AppRow {α : Type} : List Res → Value → TypeId → (α → Value) → List α → List Res → Prop
  | mk {v : Value} {ty : TypeId} {f : α → Value} {xs : List α} {L L' : List Res} (h : Pull L (row1 v ty f xs) L') : AppRow L v ty f xs L'

section
variable {P : Program} {n : Nat} {Q : Post} {e : Env} {w w0 : World} {ops : Array Oper} {rest : List Oper} {dst : Option Tmp} {ty : TypeId} {pos : String} {after : Array Edge} {L L' : List Res}

theorem O.storeBox {t : TypeId} {x y : Operand} {b i : Nat} {u : Value} [OneTy P t] (hx : ev n e x = .pointer (some ⟨b, i, none⟩)) (hy : ev n e y = u) (hu : u.oneCell' = true) (H : Own w0 w L) {bt : TypeId} {cs : List Value} (hm : Res.box b bt cs ∈ L) (hi : i < cs.length) (hs : SetBox L b i u L')
    (h : ∀ w, Own w0 w L' → O P n ops Q rest (putd e dst undef) w) : O P n ops Q (⟨dst, .store t x y, ty, pos, after, none⟩ :: rest) e w :=
  O.skips (Skips.store hx hy hu ((H.has.cell hm i).trans (List.getElem?_eq_getElem hi)) (H.has.frozen hm i)) (h _ (H.setBoxAt hs))
theorem O.storeRow {α : Type} {t : TypeId} {x y : Operand} {v : Value} {j : Nat} {f : α → Value} {a : α} [OneTy P t] (hx : ev n e x = .pointer (some (at_ v j))) (hy : ev n e y = f a) (hu : (f a).oneCell' = true) (H : Own w0 w L) (hs : SetRow L v j f a L')
    (h : ∀ w, Own w0 w L' → O P n ops Q rest (putd e dst undef) w) : O P n ops Q (⟨dst, .store t x y, ty, pos, after, none⟩ :: rest) e w := by
  obtain ⟨g1, ⟨o, g2⟩, g3⟩ := H.setRowAt hs
  exact O.skips (Skips.store hx hy hu g2 g3) (h _ g1)
theorem O.box {t : TypeId} {x : Operand} {u : Value} {cs : List Value} (hx : ev n e x = u) (hcs : u.cells.toList = cs) (H : Own w0 w L) (h : ∀ b w, Own w0 w (.box b t cs :: L) → O P n ops Q rest (putd e dst (.pointer (some ⟨b, 0, none⟩))) w) :
    O P n ops Q (⟨dst, .box t x, ty, pos, after, none⟩ :: rest) e w := by
  refine O.vals (Vals.box hx) (h _ _ ?_)
  rw [← hcs]; exact H.alloc u.cells t
theorem O.boxAgg {t : TypeId} {x : Operand} {cs : List Value} (hx : ev n e x = .agg cs.toArray) (H : Own w0 w L) (h : ∀ b w, Own w0 w (.box b t cs :: L) → O P n ops Q rest (putd e dst (.pointer (some ⟨b, 0, none⟩))) w) :
    O P n ops Q (⟨dst, .box t x, ty, pos, after, none⟩ :: rest) e w := O.box hx (by simp [Value.cells]) H h
theorem O.alloc {t : TypeId} {s b : Nat} {z : Value} {cs : List Value} [Sz P t s b z] (hcs : z.cells.toList = cs) (H : Own w0 w L) (h : ∀ b w, Own w0 w (.box b t cs :: L) → O P n ops Q rest (putd e dst (.pointer (some ⟨b, 0, none⟩))) w) :
    O P n ops Q (⟨dst, .alloc t, ty, pos, after, none⟩ :: rest) e w := by
  refine O.vals Vals.alloc (h _ _ ?_)
  rw [← hcs]; exact H.alloc z.cells t
theorem hp2 {ps : Array (Nat × Operand)} {g : Nat × Operand → Nat × Value} {us : List (Nat × Value)} (h : ps.toList.map g = us) : ps.map g = us.toArray := by
  rw [← h]; apply Array.toList_inj.1; simp
theorem cells_of_one {u : Value} (h : u.oneCell' = true) : u.cells = #[u] := by cases u <;> first | rfl | (simp [Value.oneCell'] at h)
theorem O.buildSlice {α : Type} {t d : TypeId} {by_ m : Nat} {z : Value} {f : α → Value} {xs : List α} [UTy P t (.slice d)] [Sz P d 1 by_ z] {parts : Array (Nat × Operand)} (hp : (parts.toList.map fun p => (p.1, ev n e p.2)) = ((xs.map f).zipIdx 0).map fun p => (p.2, p.1)) (hm : m = xs.length)
    (h1 : ∀ x ∈ xs, (f x).oneCell' = true) (hz : z.cells.size = 1) (hn : xs.length ≤ 65536) (H : Own w0 w L)
    (h : ∀ v w, Own w0 w (row1 v d f xs :: L) → O P n ops Q rest (putd e dst v) w) : O P n ops Q (⟨dst, .buildSlice t m parts, ty, pos, after, none⟩ :: rest) e w := by
  obtain ⟨w', hv, H'⟩ := Vals.buildSlice (P := P) (ρ := ev n e) (ty := ty) (t := t) (d := d) (us := xs.map f) (hp2 hp) (by simpa using hm) (fun u hu => by
    obtain ⟨x, hx, rfl⟩ := List.mem_map.1 hu; exact cells_of_one (h1 x hx)) hz (by simpa using hn) H
  exact O.vals hv (h _ _ H')
/-- Parts of a slice that is built, each with what it is. -/
def Parts (n : Nat) (e : Env) (k : Nat) (ps : List (Nat × Operand)) (us : List Value) : Prop := (ps.map fun p => (p.1, ev n e p.2)) = (us.zipIdx k).map fun p => (p.2, p.1)
theorem Parts.nil {n : Nat} {e : Env} {k : Nat} : Parts n e k [] [] := rfl
theorem Parts.cons {n : Nat} {e : Env} {k : Nat} {x : Operand} {u : Value} {ps : List (Nat × Operand)} {us : List Value} (h : ev n e x = u) (t : Parts n e (k + 1) ps us) : Parts n e k ((k, x) :: ps) (u :: us) := by
  unfold Parts at *
  simp [h, t]
theorem O.buildSliceV {t d : TypeId} {by_ m : Nat} {z : Value} {us : List Value} [UTy P t (.slice d)] [Sz P d 1 by_ z] {ps : List (Nat × Operand)} (hp : Parts n e 0 ps us) (hm : m = us.length)
    (h1 : ∀ x ∈ us, (val_ x).oneCell' = true) (hz : z.cells.size = 1) (hn : us.length ≤ 65536) (H : Own w0 w L)
    (h : ∀ v w, Own w0 w (row1 v d val_ us :: L) → O P n ops Q rest (putd e dst v) w) : O P n ops Q (⟨dst, .buildSlice t m ps.toArray, ty, pos, after, none⟩ :: rest) e w :=
  O.buildSlice (f := val_) (xs := us) (by simpa [Parts] using hp) hm h1 hz hn H h
theorem O.make {α : Type} {t d : TypeId} {x y : Operand} {k k' : IntKind} {m by_ : Nat} {z : Value} {f : α → Value} {a : α} [UTy P t (.slice d)] [Sz P d 1 by_ z] (hx : ev n e x = .int k (m : Int)) (hy : ev n e y = .int k' (m : Int)) (hz : z = f a) (h1 : (f a).oneCell' = true) (hb : by_ * m ≤ 281474976710656) (hm : m ≤ 9223372036854775807) (H : Own w0 w L)
    (h : ∀ v w, Own w0 w (row1 v d f (List.replicate m a) :: L) → O P n ops Q rest (putd e dst v) w) : O P n ops Q (⟨dst, .makeSlice t x y, ty, pos, after, none⟩ :: rest) e w := by
  subst hz
  obtain ⟨w', hv, H'⟩ := Vals.make (P := P) (ρ := ev n e) (ty := ty) (t := t) (d := d) hx hy (cells_of_one h1) hb (by simp only [maxLen]; omega) H
  refine O.vals hv (h _ _ ?_)
  rw [← List.map_replicate] at H'; exact H'
theorem O.append {α : Type} {t d : TypeId} {x y : Operand} {by_ : Nat} {z v u : Value} {f : α → Value} {xs ys : List α} [UTy P t (.slice d)] [Sz P d 1 by_ z] (hx : ev n e x = v) (hy : ev n e y = u) (H : Own w0 w L) (hp : Pull L (row1 v d f xs) L') (hr : RdC1 w u f ys)
    (h1 : ∀ x ∈ ys, (f x).oneCell' = true) (hz : z.cells.size = 1) (hn : xs.length + ys.length ≤ 9223372036854775807 ∧ (xs.length + ys.length) * by_ ≤ 140737488355328)
    (h : ∀ v w, Own w0 w (row1 v d f (xs ++ ys) :: L') → O P n ops Q rest (putd e dst v) w) : O P n ops Q (⟨dst, .call { callee := .builtin .append, args := #[x, y], argTypes := #[t, t] }, ty, pos, after, none⟩ :: rest) e w := by
  obtain ⟨v', w', hv, H'⟩ := Vals.append (P := P) (ρ := ev n e) (ty := ty) (t := t) (H.pull hp) hx hy hr (fun q hq => by
    obtain ⟨x, hx, rfl⟩ := List.mem_map.1 hq; exact h1 x hx) (by omega) hz (fun n hn' => by
    have : n = xs.length := by simpa using hn'.symm
    subst this; exact ⟨by simp only [maxLen]; omega, hn.2⟩)
  refine O.vals hv (h _ _ ?_)
  rw [← List.map_append] at H'; exact H'
/-- A constant's bytes. -/
theorem O.convSame {t d : TypeId} {x : Operand} {v : Value} {xs : List Nat} [UTy P t (.slice d)] [UTy P d (.int .u8)] (hx : ev n e x = v) (H : Own w0 w L) (hp : Pull L (row1 v d (nat_ .u8) xs) L') (hn : 0 < xs.length)
    (h : ∀ w, Own w0 w (.ro v 1 xs.length (xs.map (nat_ .u8)) :: L') → O P n ops Q rest (putd e dst v) w) : O P n ops Q (⟨dst, .convert t t x, ty, pos, after, none⟩ :: rest) e w := by
  obtain ⟨w', hv, H'⟩ := Vals.convSame (P := P) (ρ := ev n e) (ty := ty) (t := t) hx (by simp) hn (H.pull hp)
  exact O.vals hv (h _ H')
/-- Onto nothing. -/
theorem O.appendNil {α : Type} {t d : TypeId} {x y : Operand} {by_ : Nat} {z u : Value} {f : α → Value} {ys : List α} [UTy P t (.slice d)] [Sz P d 1 by_ z] (hx : ev n e x = .slice none 0 0) (hy : ev n e y = u) (H : Own w0 w L) (hr : RdC1 w u f ys)
    (h1 : ∀ x ∈ ys, (f x).oneCell' = true) (hz : z.cells.size = 1) (hn : ys.length ≤ 9223372036854775807 ∧ ys.length * by_ ≤ 140737488355328)
    (h : ∀ v w, Own w0 w (row1 v d f ys :: L) → O P n ops Q rest (putd e dst v) w) : O P n ops Q (⟨dst, .call { callee := .builtin .append, args := #[x, y], argTypes := #[t, t] }, ty, pos, after, none⟩ :: rest) e w := by
  refine O.append (xs := []) hx hy (H.nilRow d 1) Pull.here hr h1 hz (by simpa using hn) ?_
  intro v w H
  exact h v w (by simpa using H)
/-- A nil slice becomes one of our own. -/
theorem O.own0 (d : TypeId) (H : Own w0 w L) (h : ∀ w, Own w0 w (.row (.slice none 0 0) d 1 [] :: L) → O P n ops Q rest e w) : O P n ops Q rest e w := h w (H.nilRow d 1)

/-! ### in a region whose order is open -/
theorem C.drawnAll [Mixed P] {id : Nat} {l : List Oper} (need : List Nat) (p : Plan) (hs : (Region.noSelect l.toArray && planOk l.toArray need l.length p (Array.replicate l.length false)) = true) (hp : NoPan Q) (H : Own w0 w L)
    (h : ∀ w, Own w0 w L → Has w0 w L → D P n l.toArray Q (fun w => Has w0 w L) need p e w) : C P n (.region id l.toArray true) Q e w :=
  C.drawn _ need p hs hp (h _ (H.drawn _) (H.drawn _).has)
theorem C.drawnSub [Mixed P] {id : Nat} {l : List Oper} (need : List Nat) (p : Plan) (L' : List Res) (hs : (Region.noSelect l.toArray && planOk l.toArray need l.length p (Array.replicate l.length false)) = true) (hp : NoPan Q) (H : Own w0 w L) (hsub : ∀ r ∈ L', r ∈ L)
    (h : ∀ w, Own w0 w L → Has w0 w L' → D P n l.toArray Q (fun w => Has w0 w L') need p e w) : C P n (.region id l.toArray true) Q e w :=
  C.drawn _ need p hs hp (h _ (H.drawn _) ((H.drawn _).has.mono hsub))
variable {S : World → Prop} {need : List Nat} {p : Plan} {keep : Bool}
theorem DW.storeBox {t : TypeId} {x y : Operand} {b j : Nat} {u : Value} [OneTy P t] (hx : ev n e x = .pointer (some ⟨b, j, none⟩)) (hy : ev n e y = u) (hu : u.oneCell' = true) (H : Own w0 w L) {bt : TypeId} {cs : List Value} (hm : Res.box b bt cs ∈ L) (hi : j < cs.length) (hs : SetBox L b j u L')
    (h : ∀ w', Own w0 w' L' → (keep = true → S w → S w') ∧ D P n ops Q S need p (putd e dst undef) w') : DW P n ops Q S need ⟨dst, .store t x y, ty, pos, after, none⟩ keep p e w :=
  DW.skips (Skips.store hx hy hu ((H.has.cell hm j).trans (List.getElem?_eq_getElem hi)) (H.has.frozen hm j)) (h _ (H.setBoxAt hs)).1 (h _ (H.setBoxAt hs)).2
theorem DW.storeRow {α : Type} {t : TypeId} {x y : Operand} {v : Value} {j : Nat} {f : α → Value} {a : α} [OneTy P t] (hx : ev n e x = .pointer (some (at_ v j))) (hy : ev n e y = f a) (hu : (f a).oneCell' = true) (H : Own w0 w L) (hs : SetRow L v j f a L')
    (h : ∀ w', Own w0 w' L' → (keep = true → S w → S w') ∧ D P n ops Q S need p (putd e dst undef) w') : DW P n ops Q S need ⟨dst, .store t x y, ty, pos, after, none⟩ keep p e w := by
  obtain ⟨g1, ⟨o, g2⟩, g3⟩ := H.setRowAt hs
  exact DW.skips (Skips.store hx hy hu g2 g3) (h _ g1).1 (h _ g1).2
theorem DW.box {t : TypeId} {x : Operand} {u : Value} {cs : List Value} (hx : ev n e x = u) (hcs : u.cells.toList = cs) (H : Own w0 w L)
    (h : ∀ b w', Own w0 w' (.box b t cs :: L) → (keep = true → S w → S w') ∧ D P n ops Q S need p (putd e dst (.pointer (some ⟨b, 0, none⟩))) w') : DW P n ops Q S need ⟨dst, .box t x, ty, pos, after, none⟩ keep p e w := by
  have H' := H.alloc u.cells t
  rw [hcs] at H'
  exact DW.vals (Vals.box hx) (h _ _ H').1 (h _ _ H').2
theorem DW.convSame {t d : TypeId} {x : Operand} {v : Value} {xs : List Nat} [UTy P t (.slice d)] [UTy P d (.int .u8)] (hx : ev n e x = v) (H : Own w0 w L) (hp : Pull L (row1 v d (nat_ .u8) xs) L') (hn : 0 < xs.length)
    (h : ∀ w', Own w0 w' (.ro v 1 xs.length (xs.map (nat_ .u8)) :: L') → (keep = true → S w → S w') ∧ D P n ops Q S need p (putd e dst v) w') : DW P n ops Q S need ⟨dst, .convert t t x, ty, pos, after, none⟩ keep p e w := by
  obtain ⟨w', hv, H'⟩ := Vals.convSame (P := P) (ρ := ev n e) (ty := ty) (t := t) hx (by simp) hn (H.pull hp)
  exact DW.vals hv (h _ H').1 (h _ H').2
theorem DW.make {α : Type} {t d : TypeId} {x y : Operand} {k k' : IntKind} {m by_ : Nat} {z : Value} {f : α → Value} {a : α} [UTy P t (.slice d)] [Sz P d 1 by_ z] (hx : ev n e x = .int k (m : Int)) (hy : ev n e y = .int k' (m : Int)) (hz : z = f a) (h1 : (f a).oneCell' = true) (hb : by_ * m ≤ 281474976710656) (hm : m ≤ 9223372036854775807) (H : Own w0 w L)
    (h : ∀ v w', Own w0 w' (row1 v d f (List.replicate m a) :: L) → (keep = true → S w → S w') ∧ D P n ops Q S need p (putd e dst v) w') : DW P n ops Q S need ⟨dst, .makeSlice t x y, ty, pos, after, none⟩ keep p e w := by
  subst hz
  obtain ⟨w', hv, H'⟩ := Vals.make (P := P) (ρ := ev n e) (ty := ty) (t := t) (d := d) hx hy (cells_of_one h1) hb (by simp only [maxLen]; omega) H
  rw [← List.map_replicate] at H'
  exact DW.vals hv (h _ _ H').1 (h _ _ H').2
theorem DW.boxAgg {t : TypeId} {x : Operand} {cs : List Value} (hx : ev n e x = .agg cs.toArray) (H : Own w0 w L)
    (h : ∀ b w', Own w0 w' (.box b t cs :: L) → (keep = true → S w → S w') ∧ D P n ops Q S need p (putd e dst (.pointer (some ⟨b, 0, none⟩))) w') : DW P n ops Q S need ⟨dst, .box t x, ty, pos, after, none⟩ keep p e w := DW.box hx (by simp [Value.cells]) H h
theorem DW.buildSlice {α : Type} {t d : TypeId} {by_ m : Nat} {z : Value} {f : α → Value} {xs : List α} [UTy P t (.slice d)] [Sz P d 1 by_ z] {parts : Array (Nat × Operand)} (hp : (parts.toList.map fun p => (p.1, ev n e p.2)) = ((xs.map f).zipIdx 0).map fun p => (p.2, p.1)) (hm : m = xs.length)
    (h1 : ∀ x ∈ xs, (f x).oneCell' = true) (hz : z.cells.size = 1) (hn : xs.length ≤ 65536) (H : Own w0 w L)
    (h : ∀ v w', Own w0 w' (row1 v d f xs :: L) → (keep = true → S w → S w') ∧ D P n ops Q S need p (putd e dst v) w') : DW P n ops Q S need ⟨dst, .buildSlice t m parts, ty, pos, after, none⟩ keep p e w := by
  obtain ⟨w', hv, H'⟩ := Vals.buildSlice (P := P) (ρ := ev n e) (ty := ty) (t := t) (d := d) (us := xs.map f) (hp2 hp) (by simpa using hm) (fun u hu => by
    obtain ⟨x, hx, rfl⟩ := List.mem_map.1 hu; exact cells_of_one (h1 x hx)) hz (by simpa using hn) H
  exact DW.vals hv (h _ _ H').1 (h _ _ H').2
theorem DW.buildSliceV {t d : TypeId} {by_ m : Nat} {z : Value} {us : List Value} [UTy P t (.slice d)] [Sz P d 1 by_ z] {ps : List (Nat × Operand)} (hp : Parts n e 0 ps us) (hm : m = us.length)
    (h1 : ∀ x ∈ us, (val_ x).oneCell' = true) (hz : z.cells.size = 1) (hn : us.length ≤ 65536) (H : Own w0 w L)
    (h : ∀ v w', Own w0 w' (row1 v d val_ us :: L) → (keep = true → S w → S w') ∧ D P n ops Q S need p (putd e dst v) w') : DW P n ops Q S need ⟨dst, .buildSlice t m ps.toArray, ty, pos, after, none⟩ keep p e w :=
  DW.buildSlice (f := val_) (xs := us) (by simpa [Parts] using hp) hm h1 hz hn H h
theorem DW.append {α : Type} {t d : TypeId} {x y : Operand} {by_ : Nat} {z v u : Value} {f : α → Value} {xs ys : List α} [UTy P t (.slice d)] [Sz P d 1 by_ z] (hx : ev n e x = v) (hy : ev n e y = u) (H : Own w0 w L) (hp : Pull L (row1 v d f xs) L') (hr : RdC1 w u f ys)
    (h1 : ∀ x ∈ ys, (f x).oneCell' = true) (hz : z.cells.size = 1) (hn : xs.length + ys.length ≤ 9223372036854775807 ∧ (xs.length + ys.length) * by_ ≤ 140737488355328)
    (h : ∀ v w', Own w0 w' (row1 v d f (xs ++ ys) :: L') → (keep = true → S w → S w') ∧ D P n ops Q S need p (putd e dst v) w') : DW P n ops Q S need ⟨dst, .call { callee := .builtin .append, args := #[x, y], argTypes := #[t, t] }, ty, pos, after, none⟩ keep p e w := by
  obtain ⟨v', w', hv, H'⟩ := Vals.append (P := P) (ρ := ev n e) (ty := ty) (t := t) (H.pull hp) hx hy hr (fun q hq => by
    obtain ⟨x, hx, rfl⟩ := List.mem_map.1 hq; exact h1 x hx) (by omega) hz (fun n hn' => by
    have : n = xs.length := by simpa using hn'.symm
    subst this; exact ⟨by simp only [maxLen]; omega, hn.2⟩)
  have H'' : Own w0 w' (row1 v' d f (xs ++ ys) :: L') := by rw [← List.map_append] at H'; exact H'
  exact DW.vals hv (h _ _ H'').1 (h _ _ H'').2
end
end Go.Proofs.Ytcibdcfdchpnpaa.X
