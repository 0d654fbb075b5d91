/- Whole numbers first; structs in slices and in blocks. Nothing is assumed. -/
import Derived.Test.YtcibdcfdchpnpaaX8
import Derived.Laws.Cells
import Derived.Laws.StructEq
namespace Go.Proofs.Ytcibdcfdchpnpaa.X
open Go Go.RowKit
set_option linter.unusedSimpArgs false
set_option linter.unusedVariables false

section
variable {P : Program} {ρ : Operand → Value} {ty : TypeId} {w w0 : World} {L : List Res}

/-! ### whole numbers that are not negative -/
theorem Val.addN {t yt : TypeId} {x y : Operand} {a b : Nat} (hx : ρ x = .int .i64 (a : Int)) (hy : ρ y = .int .i64 (b : Int)) (h : a + b ≤ 9223372036854775807) : Val P ρ (.binOp .add t x y yt) ty w (.int .i64 ((a + b : Nat) : Int)) := by
  have := Val.addI (P := P) (w := w) (ty := ty) (t := t) (yt := yt) hx hy (by omega)
  rwa [← Int.natCast_add] at this
theorem Val.subN {t yt : TypeId} {x y : Operand} {a b : Nat} (hx : ρ x = .int .i64 (a : Int)) (hy : ρ y = .int .i64 (b : Int)) (h : b ≤ a ∧ a ≤ 9223372036854775807) : Val P ρ (.binOp .sub t x y yt) ty w (.int .i64 ((a - b : Nat) : Int)) := by
  have := Val.subI (P := P) (w := w) (ty := ty) (t := t) (yt := yt) hx hy (by omega)
  rwa [show (a : Int) - (b : Int) = ((a - b : Nat) : Int) from by omega] at this
theorem Val.mulN {t yt : TypeId} {x y : Operand} {a b : Nat} (hx : ρ x = .int .i64 (a : Int)) (hy : ρ y = .int .i64 (b : Int)) (h : a * b ≤ 9223372036854775807) : Val P ρ (.binOp .mul t x y yt) ty w (.int .i64 ((a * b : Nat) : Int)) := by
  have := Val.mulI (P := P) (w := w) (ty := ty) (t := t) (yt := yt) hx hy (by rw [← Int.natCast_mul]; omega)
  rwa [← Int.natCast_mul] at this
theorem Val.minN {x y : Operand} {k k' : IntKind} {a b : Nat} {ats : Array TypeId} (hx : ρ x = .int k (a : Int)) (hy : ρ y = .int k' (b : Int)) : Val P ρ (.call { callee := .builtin .min, args := #[x, y], argTypes := ats }) ty w (.int k ((min a b : Nat) : Int)) := by
  have := Val.min2 (P := P) (w := w) (ty := ty) (ats := ats) hx hy
  rwa [show min (a : Int) (b : Int) = ((min a b : Nat) : Int) from by omega] at this
theorem Val.maxN {x y : Operand} {k k' : IntKind} {a b : Nat} {ats : Array TypeId} (hx : ρ x = .int k (a : Int)) (hy : ρ y = .int k' (b : Int)) : Val P ρ (.call { callee := .builtin .max, args := #[x, y], argTypes := ats }) ty w (.int k ((max a b : Nat) : Int)) := by
  have := Val.max2 (P := P) (w := w) (ty := ty) (ats := ats) hx hy
  rwa [show max (a : Int) (b : Int) = ((max a b : Nat) : Int) from by omega] at this
/-- max(z, 0) -/
theorem Val.maxZ {x y : Operand} {k k' : IntKind} {z : Int} {ats : Array TypeId} (hx : ρ x = .int k z) (hy : ρ y = .int k' 0) : Val P ρ (.call { callee := .builtin .max, args := #[x, y], argTypes := ats }) ty w (.int k ((z.toNat : Nat) : Int)) := by
  have := Val.max2 (P := P) (w := w) (ty := ty) (ats := ats) hx hy
  rwa [show max z 0 = ((z.toNat : Nat) : Int) from by omega] at this
/-! ### .. where one is written out -/
theorem Val.addL {t yt : TypeId} {x y : Operand} {a n : Nat} (hx : ρ x = .int .i64 (a : Int)) (hy : ρ y = .int .i64 (OfNat.ofNat n : Int)) (h : a + (OfNat.ofNat n : Nat) ≤ 9223372036854775807) : Val P ρ (.binOp .add t x y yt) ty w (.int .i64 ((a + (OfNat.ofNat n : Nat) : Nat) : Int)) := Val.addN hx hy h
theorem Val.addLl {t yt : TypeId} {x y : Operand} {a n : Nat} (hx : ρ x = .int .i64 (OfNat.ofNat n : Int)) (hy : ρ y = .int .i64 (a : Int)) (h : (OfNat.ofNat n : Nat) + a ≤ 9223372036854775807) : Val P ρ (.binOp .add t x y yt) ty w (.int .i64 (((OfNat.ofNat n : Nat) + a : Nat) : Int)) := Val.addN hx hy h
theorem Val.subL {t yt : TypeId} {x y : Operand} {a n : Nat} (hx : ρ x = .int .i64 (a : Int)) (hy : ρ y = .int .i64 (OfNat.ofNat n : Int)) (h : (OfNat.ofNat n : Nat) ≤ a ∧ a ≤ 9223372036854775807) : Val P ρ (.binOp .sub t x y yt) ty w (.int .i64 ((a - (OfNat.ofNat n : Nat) : Nat) : Int)) := Val.subN hx hy h
theorem Val.subLl {t yt : TypeId} {x y : Operand} {a n : Nat} (hx : ρ x = .int .i64 (OfNat.ofNat n : Int)) (hy : ρ y = .int .i64 (a : Int)) (h : a ≤ (OfNat.ofNat n : Nat) ∧ (OfNat.ofNat n : Nat) ≤ 9223372036854775807) : Val P ρ (.binOp .sub t x y yt) ty w (.int .i64 (((OfNat.ofNat n : Nat) - a : Nat) : Int)) := Val.subN hx hy h
theorem Val.mulL {t yt : TypeId} {x y : Operand} {a n : Nat} (hx : ρ x = .int .i64 (a : Int)) (hy : ρ y = .int .i64 (OfNat.ofNat n : Int)) (h : a * (OfNat.ofNat n : Nat) ≤ 9223372036854775807) : Val P ρ (.binOp .mul t x y yt) ty w (.int .i64 ((a * (OfNat.ofNat n : Nat) : Nat) : Int)) := Val.mulN hx hy h
theorem Val.mulLl {t yt : TypeId} {x y : Operand} {a n : Nat} (hx : ρ x = .int .i64 (OfNat.ofNat n : Int)) (hy : ρ y = .int .i64 (a : Int)) (h : (OfNat.ofNat n : Nat) * a ≤ 9223372036854775807) : Val P ρ (.binOp .mul t x y yt) ty w (.int .i64 (((OfNat.ofNat n : Nat) * a : Nat) : Int)) := Val.mulN hx hy h
theorem Val.quoL {t yt : TypeId} {x y : Operand} {a n : Nat} (hx : ρ x = .int .i64 (a : Int)) (hy : ρ y = .int .i64 (OfNat.ofNat n : Int)) (h0 : a ≤ 9223372036854775807) (hb : 0 < (OfNat.ofNat n : Nat)) : Val P ρ (.binOp .quo t x y yt) ty w (.int .i64 ((a / (OfNat.ofNat n : Nat) : Nat) : Int)) := Val.quoN hx hy h0 hb
theorem Val.remL {t yt : TypeId} {x y : Operand} {a n : Nat} (hx : ρ x = .int .i64 (a : Int)) (hy : ρ y = .int .i64 (OfNat.ofNat n : Int)) (hb : 0 < (OfNat.ofNat n : Nat)) : Val P ρ (.binOp .rem t x y yt) ty w (.int .i64 ((a % (OfNat.ofNat n : Nat) : Nat) : Int)) := Val.remN hx hy hb
theorem Val.minL {x y : Operand} {k k' : IntKind} {a n : Nat} {ats : Array TypeId} (hx : ρ x = .int k (a : Int)) (hy : ρ y = .int k' (OfNat.ofNat n : Int)) : Val P ρ (.call { callee := .builtin .min, args := #[x, y], argTypes := ats }) ty w (.int k ((min a (OfNat.ofNat n : Nat) : Nat) : Int)) := Val.minN hx hy
theorem Val.maxL {x y : Operand} {k k' : IntKind} {a n : Nat} {ats : Array TypeId} (hx : ρ x = .int k (a : Int)) (hy : ρ y = .int k' (OfNat.ofNat n : Int)) : Val P ρ (.call { callee := .builtin .max, args := #[x, y], argTypes := ats }) ty w (.int k ((max a (OfNat.ofNat n : Nat) : Nat) : Int)) := Val.maxN hx hy
theorem Val.shrL {t yt : TypeId} {x y : Operand} {k k' : IntKind} {a n : Nat} (hx : ρ x = .int k a) (hy : ρ y = .int k' (OfNat.ofNat n : Int)) (ha : Fits k a) : Val P ρ (.binOp .shr t x y yt) ty w (.int k ((a >>> (OfNat.ofNat n : Nat) : Nat) : Int)) := Val.shrF hx hy ha
theorem Val.shlL {t yt : TypeId} {x y : Operand} {k k' : IntKind} {a n : Nat} (hk : k.signed = false) (hx : ρ x = .int k a) (hy : ρ y = .int k' (OfNat.ofNat n : Int)) : Val P ρ (.binOp .shl t x y yt) ty w (.int k ((a <<< (OfNat.ofNat n : Nat) % 2 ^ k.bits : Nat) : Int)) := Val.shlU hk hx hy
theorem Val.shlLl {t yt : TypeId} {x y : Operand} {k k' : IntKind} {n s : Nat} (hk : k.signed = false) (hx : ρ x = .int k (OfNat.ofNat n : Int)) (hy : ρ y = .int k' s) : Val P ρ (.binOp .shl t x y yt) ty w (.int k (((OfNat.ofNat n : Nat) <<< s % 2 ^ k.bits : Nat) : Int)) := Val.shlU hk hx hy
/-- The lowest part of a number. -/
def lowM (z : Int) (M : Nat) : Nat := (z % (M : Int)).toNat
theorem lowM_lt (z : Int) {M : Nat} (h : 0 < M) : lowM z M < M := by
  unfold lowM
  have h1 := Int.emod_nonneg z (b := (M : Int)) (by omega)
  have h2 := Int.emod_lt_of_pos z (b := (M : Int)) (by omega)
  omega
theorem lowM_nat (a M : Nat) : lowM (a : Int) M = a % M := by
  unfold lowM; rw [← Int.natCast_emod]; rfl
theorem Val.maskI {t yt : TypeId} {x y : Operand} {z : Int} {m : Nat} (k M : Nat) (hx : ρ x = .int .i64 z) (hy : ρ y = .int .i64 (m : Int)) (hM : m + 1 = M) (h2 : M = 2 ^ k) (hk : k ≤ 63) : Val P ρ (.binOp .and t x y yt) ty w (.int .i64 ((lowM z M : Nat) : Int)) := by
  have := Val.andM (P := P) (w := w) (ty := ty) (t := t) (yt := yt) k hx hy (by omega) hk
  have e : lowN z m = lowM z M := by
    unfold lowN lowM; rw [show ((m : Int) + 1) = (M : Int) from by omega]
  rwa [e] at this
theorem Val.maskN {t yt : TypeId} {x y : Operand} {a m : Nat} (k M : Nat) (hx : ρ x = .int .i64 (a : Int)) (hy : ρ y = .int .i64 (m : Int)) (hM : m + 1 = M) (h2 : M = 2 ^ k) (hk : k ≤ 63) : Val P ρ (.binOp .and t x y yt) ty w (.int .i64 ((a % M : Nat) : Int)) := by
  have := Val.maskI (P := P) (w := w) (ty := ty) (t := t) (yt := yt) k M hx hy hM h2 hk
  rwa [lowM_nat] at this
/-- Of an unsigned kind. -/
theorem Val.maskU {t yt : TypeId} {x y : Operand} {kd : IntKind} {a m : Nat} (k M : Nat) (hx : ρ x = .int kd (a : Int)) (hy : ρ y = .int kd (m : Int)) (ha : Fits kd a) (hm : Fits kd m) (hM : m + 1 = M) (h2 : M = 2 ^ k) : Val P ρ (.binOp .and t x y yt) ty w (.int kd ((a % M : Nat) : Int)) := by
  have := Val.andN (P := P) (w := w) (ty := ty) (t := t) (yt := yt) hx hy ha hm
  have e : a &&& m = a % M := by
    rw [show m = 2 ^ k - 1 from by omega, h2]; exact Nat.and_two_pow_sub_one_eq_mod a k
  rwa [e] at this
theorem Val.eqlB {t yt : TypeId} {x y : Operand} {a b : Bool} [ht : UTy P t .bool] (hx : ρ x = .bool a) (hy : ρ y = .bool b) : Val P ρ (.binOp .eql t x y yt) ty w (.bool (a == b)) := by
  refine ⟨fun _ _ _ _ => ?_⟩
  simp only [execOp, hx, hy]
  have h1 : (binOp .eql t (.bool a) (.bool b)).run P w = .ok (.bool (a == b)) w := run_eql_bool w t a b ht.eq
  refine run_value ?_
  simp [eqGuard, h1]
theorem Val.neqB {t yt : TypeId} {x y : Operand} {a b : Bool} [ht : UTy P t .bool] (hx : ρ x = .bool a) (hy : ρ y = .bool b) : Val P ρ (.binOp .neq t x y yt) ty w (.bool (a != b)) := by
  refine ⟨fun _ _ _ _ => ?_⟩
  simp only [execOp, hx, hy]
  have h1 : (binOp .neq t (.bool a) (.bool b)).run P w = .ok (.bool (!(a == b))) w := run_neq_bool w t a b ht.eq
  refine run_value ?_
  simp [eqGuard, h1, bne]

/-! ### rows of structs -/
/-- Each is so many cells. -/
class Esz {α : Type} (f : α → List Value) (esz : outParam Nat) : Prop where
  eq : ∀ a, (f a).length = esz
theorem flatMap_len {α : Type} {f : α → List Value} {esz : Nat} [h : Esz f esz] (xs : List α) : (xs.flatMap f).length = xs.length * esz := by
  induction xs with
  | nil => simp
  | cons x xs ih => simp only [List.flatMap_cons, List.length_append, ih, h.eq, List.length_cons, Nat.add_mul]; omega
theorem flatMap_get {α : Type} {f : α → List Value} {esz : Nat} [h : Esz f esz] (d : α) : ∀ (xs : List α) (j off : Nat), j < xs.length → off < esz → (xs.flatMap f)[j * esz + off]? = (f (xs.getD j d))[off]?
  | [], j, off, hj, _ => by simp at hj
  | x :: xs, 0, off, _, ho => by
    rw [List.flatMap_cons, Nat.zero_mul, Nat.zero_add, List.getElem?_append_left (by rw [h.eq]; exact ho)]; rfl
  | x :: xs, j + 1, off, hj, ho => by
    rw [List.flatMap_cons, List.getElem?_append_right (by rw [h.eq, Nat.add_mul]; omega), h.eq, show (j + 1) * esz + off - esz = j * esz + off from by rw [Nat.add_mul]; omega]
    exact flatMap_get d xs j off (by simpa using hj) ho
/-- A slice of structs, that reads so. -/
abbrev RdK {α : Type} (w0 : World) (L : List Res) (v : Value) (esz : Nat) (f : α → List Value) (xs : List α) : Prop := Rd w0 L v esz xs.length (xs.flatMap f)
abbrev RdCK {α : Type} (w : World) (v : Value) (esz : Nat) (f : α → List Value) (xs : List α) : Prop := RdC w v esz xs.length (xs.flatMap f)
abbrev rowK {α : Type} (v : Value) (ty : TypeId) (esz : Nat) (f : α → List Value) (xs : List α) : Res := .row v ty esz (xs.flatMap f)
theorem Has.rowK {α : Type} {L : List Res} (H : Has w0 w L) {v : Value} {ty : TypeId} {esz : Nat} {f : α → List Value} [h : Esz f esz] {xs : List α} (he : 0 < esz) (hm : X.rowK v ty esz f xs ∈ L) : RdCK w v esz f xs :=
  H.row hm _ (flatMap_len xs) he
theorem Has.rowKm {α : Type} {L : List Res} (H : Has w0 w L) {v : Value} {ty : TypeId} {esz : Nat} {f : α → List Value} [h : Esz f esz] {xs : List α} (hm : X.rowK v ty esz f xs ∈ L) (he : 0 < esz) : RdCK w v esz f xs := H.rowK he hm
theorem Rd.rowK {α : Type} {v : Value} {ty : TypeId} {esz : Nat} {f : α → List Value} [h : Esz f esz] {xs : List α} (he : 0 < esz) (hm : X.rowK v ty esz f xs ∈ L) : RdK w0 L v esz f xs := fun _ hw => hw.rowK he hm
theorem Rd.nilK {α : Type} {esz : Nat} (f : α → List Value) : RdK w0 L (.slice none 0 0) esz f ([] : List α) :=
  fun _ _ => ⟨by simp, none, 0, rfl, Nat.le_refl _, by decide, fun _ => ⟨rfl, rfl⟩, fun _ h => by cases h⟩
/-- A slice that is not nil. -/
def NonNil (v : Value) : Prop := ∃ a n c, v = .slice (some a) n c
theorem RdC.nonnil {v : Value} {esz n : Nat} {cs : List Value} (h : RdC w v esz n cs) (hn : 0 < n) : NonNil v := by
  obtain ⟨_, a, c, rfl, _, _, h3, _⟩ := h
  cases a with
  | none => have := (h3 rfl).1; omega
  | some a => exact ⟨a, n, c, rfl⟩
theorem at_add {v : Value} {j off : Nat} (h : NonNil v) : (at_ v j).add off = at_ v (j + off) := by
  obtain ⟨a, n, c, rfl⟩ := h
  simp only [at_, Addr.add]
  by_cases h0 : off = 0
  · subst h0; rfl
  · rw [if_neg h0, Nat.add_assoc]
theorem Val.idxK {t d : TypeId} {x ix : Operand} {k : IntKind} {j : Nat} {v z : Value} {esz by_ n : Nat} {cs : List Value} [hu : UTy P t (.slice d)] [hs : Sz P d esz by_ z] (hx : ρ x = v) (hi : ρ ix = .int k (j : Int)) (hr : RdC w v esz n cs) (h1 : j < n) :
    Val P ρ (.indexAddr t x ix) ty w (.pointer (some (at_ v (j * esz)))) := by
  have := Val.idx (P := P) (ty := ty) (w := w) (hu := hu) (hs := hs) hx hi hr (by omega) (by omega)
  simpa using this
theorem Val.fieldAt {s f off : Nat} {x : Operand} {v : Value} {j : Nat} [FieldOk P s f off] (hx : ρ x = .pointer (some (at_ v j))) (hv : NonNil v) : Val P ρ (.fieldAddr s x f) ty w (.pointer (some (at_ v (j + off)))) := by
  refine ⟨fun _ _ _ _ => ?_⟩
  have hr := run_fieldAt (P := P) (s := s) (f := f) (off := off) (at_ v j) w
  rw [at_add hv] at hr
  simp only [execOp, hx]
  exact run_value hr
theorem RdCK.cell {α : Type} {v : Value} {esz : Nat} {f : α → List Value} [h : Esz f esz] {xs : List α} (hr : RdCK w v esz f xs) (d : α) {j off : Nat} {u : Value} (hj : j < xs.length) (hu : (f (xs.getD j d))[off]? = some u) : w.cell? (at_ v (j * esz + off)) = some u := by
  refine RdC.cell hr _ _ ?_
  have ho : off < esz := by
    have := (List.getElem?_eq_some_iff.1 hu).1
    rwa [h.eq] at this
  rw [flatMap_get d xs j off hj ho]; exact hu
theorem Val.loadK {α : Type} {t : TypeId} {x : Operand} {v : Value} {j off esz : Nat} {f : α → List Value} {xs : List α} {u : Value} (d : α) [Esz f esz] [OneTy P t] (hx : ρ x = .pointer (some (at_ v (j * esz + off)))) (hr : RdCK w v esz f xs) (hj : j < xs.length) (hu : (f (xs.getD j d))[off]? = some u) : Val P ρ (.load t x) ty w u :=
  Val.load hx (RdCK.cell hr d hj hu)
/-- A type of several cells. -/
class AggTy (P : Program) (t : TypeId) (n : outParam Nat) : Prop where
  eq : ∃ d, P.underlying t = some d ∧ isOne d = false ∧ ∃ i, P.info? t = some i ∧ i.size = n
theorem run_isAgg_agg {t : TypeId} {n : Nat} [h : AggTy P t n] (w : World) : (isAgg t).run P w = .ok true w := by
  obtain ⟨d, h1, h2, _⟩ := h.eq
  unfold isAgg
  cases d <;> simp_all [run_underlying h1, isOne]
theorem Val.loadAgg {t : TypeId} {x : Operand} {a : Addr} {n : Nat} {cs : List Value} [h : AggTy P t n] (hx : ρ x = .pointer (some a)) (hn : cs.length = n) (hc : ∀ j v, cs[j]? = some v → w.cell? (a.add j) = some v) : Val P ρ (.load t x) ty w (.agg cs.toArray) := by
  refine ⟨fun _ _ _ _ => ?_⟩
  obtain ⟨d, h1, h2, i, h3, h4⟩ := h.eq
  have hl := run_loadCells_list (P := P) w a cs hc
  simp only [execOp, hx]
  refine run_value ?_
  simp [Instr.loadAt, Instr.sureAddr, loadVar, run_isAgg_agg, sizeOf, typeInfo, h3, h4, ← hn, hl]
theorem Val.loadAggK {α : Type} {t : TypeId} {x : Operand} {v : Value} {j esz : Nat} {f : α → List Value} {xs : List α} (d : α) [h : Esz f esz] [AggTy P t esz] (hx : ρ x = .pointer (some (at_ v (j * esz)))) (hr : RdCK w v esz f xs) (hj : j < xs.length) : Val P ρ (.load t x) ty w (.agg (f (xs.getD j d)).toArray) := by
  have hv : NonNil v := RdC.nonnil hr (by omega)
  refine Val.loadAgg hx (h.eq _) fun i u hu => ?_
  rw [at_add hv]
  exact RdCK.cell hr d hj hu
theorem Val.loadAggBox {t : TypeId} {x : Operand} {b n : Nat} {bt : TypeId} {cs : List Value} [AggTy P t n] (hx : ρ x = .pointer (some ⟨b, 0, none⟩)) (H : Has w0 w L) (hm : Res.box b bt cs ∈ L) (hn : cs.length = n) : Val P ρ (.load t x) ty w (.agg cs.toArray) := by
  refine Val.loadAgg hx hn fun i u hu => ?_
  have e : (⟨b, 0, none⟩ : Addr).add i = ⟨b, i, none⟩ := by
    unfold Addr.add; by_cases h0 : i = 0
    · subst h0; rfl
    · rw [if_neg h0, Nat.zero_add]
  rw [e]; exact (H.cell hm i).trans hu

/-! ### writing a struct into a block of its own -/
theorem Own.setAll {b : Nat} {bt : TypeId} {cs cs' : List Value} (H : Own w0 w (.box b bt cs :: L)) {t : TypeId} {n : Nat} [h : AggTy P t n] {x y : Operand} (hx : ρ x = .pointer (some ⟨b, 0, none⟩)) (hy : ρ y = .agg cs'.toArray) (hn : cs'.length = n) (hl : cs.length = n) (h1 : ∀ u ∈ cs', u.oneCell' = true) :
    ∃ w', Skips P ρ (.store t x y) ty w w' ∧ Own w0 w' (.box b bt cs' :: L) := by
  obtain ⟨d, g1, g2, i, g3, g4⟩ := h.eq
  have hh := H.holds _ List.mem_cons_self
  obtain ⟨w', hr, hw1, hw2, hw3⟩ : ∃ w', (storeCells ⟨b, 0, none⟩ cs').run P w = .ok () w' ∧ w'.heap[b]? = some (.cells cs'.toArray bt (0, 0)) ∧ (∀ k, k ≠ b → w'.heap[k]? = w.heap[k]?) ∧ Below w0.heap.size w0 w' ∧ w.heap.size ≤ w'.heap.size := by
    have key : ∀ (vs : List Value) (i : Nat) (cur : List Value) (w : World), w.heap[b]? = some (.cells cur.toArray bt (0, 0)) → i + vs.length = cur.length → (∀ u ∈ vs, u.oneCell' = true) → Below w0.heap.size w0 w →
        ∃ w', (storeCells ⟨b, 0, none⟩ vs i).run P w = .ok () w' ∧ w'.heap[b]? = some (.cells (cur.take i ++ vs).toArray bt (0, 0)) ∧ (∀ k, k ≠ b → w'.heap[k]? = w.heap[k]?) ∧ Below w0.heap.size w0 w' ∧ w.heap.size ≤ w'.heap.size := by
      intro vs
      induction vs with
      | nil =>
        intro i cur w hw hi _ hb
        have : cur.take i = cur := List.take_of_length_le (by simp at hi; omega)
        exact ⟨w, by simp [storeCells], by rw [this]; simpa using hw, fun _ _ => rfl, hb, Nat.le_refl _⟩
      | cons u us ih =>
        intro i cur w hw hi h1 hb
        simp only [List.length_cons] at hi
        have hu := h1 u List.mem_cons_self
        have ha : (⟨b, 0, none⟩ : Addr).add i = ⟨b, i, none⟩ := by
          unfold Addr.add; by_cases h0 : i = 0
          · subst h0; rfl
          · rw [if_neg h0, Nat.zero_add]
        have hc : w.cell? ⟨b, i, none⟩ = some (cur[i]'(by omega)) := by
          rw [cell_of_row w b i _ _ _ hw]; simp
        have hf : w.frozen? ⟨b, i, none⟩ = false := frozen_of_row w b i _ _ hw
        have hst : (Go.store ⟨b, i, none⟩ u).run P w = Result.ok () (w.setCell ⟨b, i, none⟩ u) := by
          cases u <;> first | (simp [Value.oneCell'] at hu; done) | simp [Go.store, Sem.run, hc, hf]
        obtain ⟨w', r1, r2, r3, r4, r5⟩ := ih (i + 1) (cur.set i u) (w.setCell ⟨b, i, none⟩ u) (by rw [heap_setCell_same w b i _ _ u hw]; simp) (by simp; omega) (fun v hv => h1 v (List.mem_cons_of_mem _ hv)) (hb.setCell hh.1 _)
        refine ⟨w', ?_, ?_, ?_, r4, ?_⟩
        · simp only [storeCells, ha, Sem.run_bind, hst, Result.andThen]; exact r1
        · rw [r2]
          congr 3
          rw [List.take_set, List.take_succ_eq_append_getElem (by omega), List.set_append_right _ _ (by rw [List.length_take]; omega)]
          have : i - (cur.take i).length = 0 := by rw [List.length_take]; omega
          rw [this]; simp
        · intro k hk
          rw [r3 k hk]; exact heap_setCell_other w ⟨b, i, none⟩ k u hk
        · refine Nat.le_trans ?_ r5
          simp
    obtain ⟨w', r1, r2, r3, r4, r5⟩ := key cs' 0 cs w hh.2 (by omega) h1 H.below
    exact ⟨w', r1, by simpa using r2, r3, r4, r5⟩
  refine ⟨w', ⟨fun _ _ _ _ => ?_⟩, ?_⟩
  · simp only [execOp, hx, hy]
    refine run_skip ?_
    simp [Instr.storeAt, Instr.sureAddr, storeVar, Value.cells, sizeOf, typeInfo, g3, g4, hn, hr]
  · refine Own.update (A := [.box b bt cs]) (A' := [.box b bt cs']) H hw3.1 ?_ (List.pairwise_singleton _ _) ?_ ?_ hw3.2
    · intro r hr
      simp only [List.mem_singleton] at hr; subst hr
      exact ⟨hh.1, hw1⟩
    · intro r hr k hk
      simp only [List.mem_singleton] at hr; subst hr
      exact .inl ⟨_, List.mem_singleton.2 rfl, hk⟩
    · intro k _ hk
      exact hw2 k (fun e => hk _ (List.mem_singleton.2 rfl) (by simp [Res.foot, e]))

/-! ### structs alike -/
/-- Cells of whole numbers alone. -/
def IntCells : List Value → Prop
  | [] => True
  | .int _ _ :: l => IntCells l
  | _ :: _ => False
end
end Go.Proofs.Ytcibdcfdchpnpaa.X
