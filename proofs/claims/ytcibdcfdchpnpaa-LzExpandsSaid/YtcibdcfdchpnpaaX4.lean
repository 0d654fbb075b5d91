/- Where a piece of code leads. Nothing is assumed. -/
import Derived.Test.YtcibdcfdchpnpaaX3
import Derived.Lib.LazyBuf
namespace Go.Proofs.Ytcibdcfdchpnpaa.X
open Go Go.RowKit
set_option linter.unusedSimpArgs false
set_option linter.unusedVariables false
section
variable {P : Program} {n : Nat} {Q : Post} {K : Env → World → Prop} {e : Env} {w : World} {ops : Array Oper} {rest : List Oper} {dst : Option Tmp} {op : Op} {ty : TypeId} {pos : String} {after : Array Edge}

theorem nself {α : Sort _} {a : α} : ¬ (a ≠ a) := fun h => h rfl
/-! ### what stands in some slots -/
def Slots (e : Env) : List (Nat × Value) → Prop
  | [] => True
  | (t, v) :: l => e t = v ∧ Slots e l
def ups (e : Env) : List (Nat × Value) → Env
  | [] => e
  | (t, v) :: l => upd (ups e l) t v
theorem ups_eq {e : Env} : ∀ {l : List (Nat × Value)}, Slots e l → ups e l = e
  | [], _ => rfl
  | (t, v) :: l, ⟨h, hl⟩ => by
    rw [ups, ups_eq hl]
    funext i
    simp only [upd, beq_nat]
    by_cases hi : i = t
    · subst hi; simp [h]
    · simp [hi]
theorem C.loopS {σ : Type} {c : Code} (S : σ → List (Nat × Value)) (I : Nat → σ → World → Prop) (m : Nat) (s : σ) (h0 : I m s w) (hs : Slots e (S s))
    (round : ∀ m s e w, I m s w → C P n c (X.thn (fun e' w' => ∃ m' s', m' < m ∧ I m' s' w' ∧ Slots e' (S s')) Q) (ups e (S s)) w) : C P n (.loop c) Q e w := by
  refine C.loop (fun m e w => ∃ s, I m s w ∧ Slots e (S s)) m ⟨s, h0, hs⟩ ?_
  rintro m e w ⟨s, hI, hS⟩
  have := round m s e w hI
  rw [ups_eq hS] at this
  refine C.mono this ?_
  rintro x e w hx
  cases x with
  | normal => obtain ⟨m', s', h1, h2, h3⟩ := hx; exact ⟨m', h1, s', h2, h3⟩
  | _ => exact hx
theorem C.loop2 {α β : Type} {c : Code} (S : α → β → List (Nat × Value)) (I : Nat → α → β → World → Prop) (m : Nat) (a : α) (b : β) (h0 : I m a b w) (hs : Slots e (S a b))
    (round : ∀ m a b e w, I m a b w → C P n c (X.thn (fun e' w' => ∃ m' a' b', m' < m ∧ I m' a' b' w' ∧ Slots e' (S a' b')) Q) (ups e (S a b)) w) : C P n (.loop c) Q e w := by
  refine C.loopS (fun s : α × β => S s.1 s.2) (fun m s w => I m s.1 s.2 w) m (a, b) h0 hs ?_
  rintro m ⟨a, b⟩ e w hI
  refine C.mono (round m a b e w hI) ?_
  rintro x e w hx
  cases x with
  | normal => obtain ⟨m', a', b', h1, h2, h3⟩ := hx; exact ⟨m', (a', b'), h1, h2, h3⟩
  | _ => exact hx
theorem C.loop3 {α β γ : Type} {c : Code} (S : α → β → γ → List (Nat × Value)) (I : Nat → α → β → γ → World → Prop) (m : Nat) (a : α) (b : β) (g : γ) (h0 : I m a b g w) (hs : Slots e (S a b g))
    (round : ∀ m a b g e w, I m a b g w → C P n c (X.thn (fun e' w' => ∃ m' a' b' g', m' < m ∧ I m' a' b' g' w' ∧ Slots e' (S a' b' g')) Q) (ups e (S a b g)) w) : C P n (.loop c) Q e w := by
  refine C.loopS (fun s : α × β × γ => S s.1 s.2.1 s.2.2) (fun m s w => I m s.1 s.2.1 s.2.2 w) m (a, b, g) h0 hs ?_
  rintro m ⟨a, b, g⟩ e w hI
  refine C.mono (round m a b g e w hI) ?_
  rintro x e w hx
  cases x with
  | normal => obtain ⟨m', a', b', g', h1, h2, h3⟩ := hx; exact ⟨m', (a', b', g'), h1, h2, h3⟩
  | _ => exact hx
/-- What holds here is all that is known behind. -/
theorem C.cut {σ : Type} {c : Code} (S : σ → List (Nat × Value)) (I : σ → World → Prop) (s : σ) (h0 : I s w) (hs : Slots e (S s)) (h : ∀ s e w, I s w → C P n c Q (ups e (S s)) w) : C P n c Q e w := by
  have := h s e w h0
  rwa [ups_eq hs] at this

/-- What a piece of code leaves: some slots, and a world. -/
def endS {σ : Type} (S : σ → List (Nat × Value)) (I : σ → World → Prop) : Post := fun x e w =>
  match x with
  | .normal => ∃ s, I s w ∧ Slots e (S s)
  | _ => False
theorem C.seqS {σ : Type} {x y : Code} (S : σ → List (Nat × Value)) (I : σ → World → Prop) (h : C P n x (endS S I) e w) (k : ∀ s e w, I s w → C P n y Q (ups e (S s)) w) : C P n (.seq x y) Q e w := by
  refine C.seq (C.mono h ?_)
  intro ex e' w' hx
  cases ex with
  | normal =>
    obtain ⟨s, hI, hS⟩ := hx
    show C P n y Q e' w'
    have := k s e' w' hI
    rwa [ups_eq hS] at this
  | _ => exact hx.elim

theorem J.thn (h : K e w) : thn K Q .normal e w := h
theorem J.blkN {id : Nat} (h : Q .normal e w) : inBlk id Q .normal e w := h
theorem J.blkE {id : Nat} (h : Q .normal e w) : inBlk id Q (.exit id) e w := by simp only [inBlk, if_true]; exact h
theorem J.blkE' {id id' : Nat} (hne : id' ≠ id) (h : Q (.exit id') e w) : inBlk id Q (.exit id') e w := by simp only [inBlk, if_neg hne]; exact h
theorem J.blkR {id : Nat} (h : Q .ret e w) : inBlk id Q .ret e w := h
theorem J.thnE {id : Nat} (h : Q (.exit id) e w) : X.thn K Q (.exit id) e w := h
theorem J.thnR (h : Q .ret e w) : X.thn K Q .ret e w := h
theorem J.bodyN {rs : List Tmp} {R : Value → World → Prop} (h : R (retv n e rs) w) : body n rs R .normal e w := h
theorem J.bodyR {rs : List Tmp} {R : Value → World → Prop} (h : R (retv n e rs) w) : body n rs R .ret e w := h

theorem C.ifT {c : Operand} {x y : Code} {p : Prop} [Decidable p] (hc : ev n e c = .bool (decide p)) (hp : p) (h : C P n x Q e w) : C P n (.cond c x y) Q e w := C.condT hc (by simpa using hp) h
theorem C.ifF {c : Operand} {x y : Code} {p : Prop} [Decidable p] (hc : ev n e c = .bool (decide p)) (hp : ¬ p) (h : C P n y Q e w) : C P n (.cond c x y) Q e w := C.condF hc (by simpa using hp) h
theorem C.ifd {c : Operand} {x y : Code} {p : Prop} [Decidable p] (hc : ev n e c = .bool (decide p)) (ht : p → C P n x Q e w) (hf : ¬ p → C P n y Q e w) : C P n (.cond c x y) Q e w :=
  C.cond hc (fun h => ht (by simpa using h)) (fun h => hf (by simpa using h))

/-- Guards over a test. -/
theorem O.gT {j t : Nat} {b : Bool} {p : Prop} [Decidable p] (hj : (ops[j]?).bind (·.dst) = some t) (ht : ev n e (.tmp t) = .bool (decide p)) (hp : p) (hb : b = true) (h : O P n ops Q (⟨dst, op, ty, pos, after, none⟩ :: rest) e w) :
    O P n ops Q (⟨dst, op, ty, pos, after, some (j, b)⟩ :: rest) e w := O.gyes hj ht (by rw [hb]; simpa using hp) h
theorem O.gF {j t : Nat} {b : Bool} {p : Prop} [Decidable p] (hj : (ops[j]?).bind (·.dst) = some t) (ht : ev n e (.tmp t) = .bool (decide p)) (hp : ¬ p) (hb : b = false) (h : O P n ops Q (⟨dst, op, ty, pos, after, none⟩ :: rest) e w) :
    O P n ops Q (⟨dst, op, ty, pos, after, some (j, b)⟩ :: rest) e w := O.gyes hj ht (by rw [hb]; simpa using hp) h
theorem O.sT {j t : Nat} {b : Bool} {p : Prop} [Decidable p] (hj : (ops[j]?).bind (·.dst) = some t) (ht : ev n e (.tmp t) = .bool (decide p)) (hp : p) (hb : b = false) (h : O P n ops Q rest (putd e dst undef) w) :
    O P n ops Q (⟨dst, op, ty, pos, after, some (j, b)⟩ :: rest) e w := O.gno hj ht (by rw [hb]; simpa using hp) h
theorem O.sF {j t : Nat} {b : Bool} {p : Prop} [Decidable p] (hj : (ops[j]?).bind (·.dst) = some t) (ht : ev n e (.tmp t) = .bool (decide p)) (hp : ¬ p) (hb : b = true) (h : O P n ops Q rest (putd e dst undef) w) :
    O P n ops Q (⟨dst, op, ty, pos, after, some (j, b)⟩ :: rest) e w := O.gno hj ht (by rw [hb]; simpa using hp) h
end
section
variable {P : Program} {ρ : Operand → Value} {ty : TypeId} {w : World}
theorem Val.pickDT {c a b : Operand} {p : Prop} [Decidable p] (hc : ρ c = .bool (decide p)) (hp : p) : Val P ρ (.pick c a b) ty w (ρ a) := Val.pickT hc (by simpa using hp)
theorem Val.pickDF {c a b : Operand} {p : Prop} [Decidable p] (hc : ρ c = .bool (decide p)) (hp : ¬ p) : Val P ρ (.pick c a b) ty w (ρ b) := Val.pickF hc (by simpa using hp)
theorem Val.moveB {x : Operand} {b : Bool} (h : ρ x = .bool b) : Val P ρ (.move x) ty w (.bool b) := h ▸ Val.move
theorem Val.assignB {x : Operand} {b : Bool} (h : ρ x = .bool b) : Val P ρ (.assign x) ty w (.bool b) := h ▸ Val.assign
theorem Val.moveP {x : Operand} {a : Option Addr} (h : ρ x = .pointer a) : Val P ρ (.move x) ty w (.pointer a) := h ▸ Val.move
theorem Val.assignP {x : Operand} {a : Option Addr} (h : ρ x = .pointer a) : Val P ρ (.assign x) ty w (.pointer a) := h ▸ Val.assign
theorem Val.moveV {x : Operand} {v : Value} (h : ρ x = v) : Val P ρ (.move x) ty w v := h ▸ Val.move
theorem Val.assignV {x : Operand} {v : Value} (h : ρ x = v) : Val P ρ (.assign x) ty w v := h ▸ Val.assign
end

instance (k : IntKind) (a : Nat) : Decidable (Fits k a) := inferInstanceAs (Decidable (_ < _))
theorem Fits.u8 {a : Nat} (h : a < 256) : Fits .u8 a := h
theorem Fits.u16 {a : Nat} (h : a < 65536) : Fits .u16 a := h
theorem Fits.u32 {a : Nat} (h : a < 4294967296) : Fits .u32 a := h
theorem Fits.u64 {a : Nat} (h : a < 18446744073709551616) : Fits .u64 a := h
theorem Fits.i64 {a : Nat} (h : a < 9223372036854775808) : Fits .i64 a := h
theorem Fits.shr {k : IntKind} {a s : Nat} (h : Fits k a) : Fits k (a >>> s) := Nat.lt_of_le_of_lt (Nat.shiftRight_le a s) h
theorem Fits.modU {k : IntKind} {a : Nat} (hk : k.signed = false) : Fits k (a % 2 ^ k.bits) := by
  unfold Fits; rw [hk]; exact Nat.mod_lt _ (Nat.two_pow_pos _)
section
variable {P : Program} {ρ : Operand → Value} {ty : TypeId} {w : World}
theorem wrap_U {k : IntKind} (hk : k.signed = false) (c : Nat) : k.wrap (c : Int) = ((c % 2 ^ k.bits : Nat) : Int) := by
  cases k <;> simp [IntKind.wrap, IntKind.bits, IntKind.signed, IntKind.max, IntKind.min] at * <;> omega
theorem Val.addU {t yt : TypeId} {x y : Operand} {k : IntKind} {a b : Nat} (hk : k.signed = false) (hx : ρ x = .int k a) (hy : ρ y = .int k b) : Val P ρ (.binOp .add t x y yt) ty w (.int k ((((a + b) % 2 ^ k.bits : Nat)) : Int)) := by
  have := Val.add (P := P) (w := w) (ty := ty) (t := t) (yt := yt) hx hy
  rwa [show ((a : Int) + b) = ((a + b : Nat) : Int) from by omega, wrap_U hk] at this
theorem Val.mulU {t yt : TypeId} {x y : Operand} {k : IntKind} {a b : Nat} (hk : k.signed = false) (hx : ρ x = .int k a) (hy : ρ y = .int k b) : Val P ρ (.binOp .mul t x y yt) ty w (.int k ((((a * b) % 2 ^ k.bits : Nat)) : Int)) := by
  have := Val.mul (P := P) (w := w) (ty := ty) (t := t) (yt := yt) hx hy
  rwa [show ((a : Int) * b) = ((a * b : Nat) : Int) from (Int.natCast_mul a b).symm, wrap_U hk] at this
theorem Val.subU {t yt : TypeId} {x y : Operand} {k : IntKind} {a b : Nat} (hx : ρ x = .int k a) (hy : ρ y = .int k b) (ha : Fits k a) (h : b ≤ a) : Val P ρ (.binOp .sub t x y yt) ty w (.int k (((a - b : Nat)) : Int)) := by
  have := Val.sub (P := P) (w := w) (ty := ty) (t := t) (yt := yt) hx hy
  rwa [show ((a : Int) - b) = ((a - b : Nat) : Int) from by omega, Fits.wrap (Nat.lt_of_le_of_lt (Nat.sub_le a b) ha)] at this
/-- All bits turned. -/
theorem Val.notU {t : TypeId} {x : Operand} {k : IntKind} {a : Nat} (hk : k.signed = false) (hx : ρ x = .int k a) (ha : Fits k a) : Val P ρ (.unOp .xor t x) ty w (.int k ((2 ^ k.bits - 1 ^^^ a : Nat) : Int)) := by
  refine ⟨fun _ _ _ _ => ?_⟩
  have hm : Fits k (2 ^ k.bits - 1) := by unfold Fits; rw [hk]; exact Nat.sub_lt (Nat.two_pow_pos _) (by omega)
  have hmax : (k.max : Int) = ((2 ^ k.bits - 1 : Nat) : Int) := by cases k <;> simp [IntKind.signed] at hk <;> rfl
  have h := bits_xor (P := P) (w := w) (t := t) hm.lt ha.lt (Fits.xor hm ha).wrap
  simp only [execOp, hx]
  refine run_value ?_
  simp only [Op.unary, hk, hmax]
  simpa [binOp] using h
theorem Val.eqlNilS {t d : TypeId} {x y : Operand} {yt : TypeId} {a : Option Addr} {n c : Nat} [hu : UTy P t (.slice d)] (hx : ρ x = .slice a n c) (hy : ρ y = .slice none 0 0) : Val P ρ (.binOp .eql t x y yt) ty w (.bool a.isNone) := by
  refine ⟨fun _ _ _ _ => ?_⟩
  simp only [execOp, hx, hy]
  have h1 : (binOp .eql t (.slice a n c) (.slice none 0 0)).run P w = .ok (.bool a.isNone) w := _root_.Go.run_eql_slice_nil w t d a n c hu.eq
  refine run_value ?_
  simp [eqGuard, h1]
theorem Val.neqNilS {t d : TypeId} {x y : Operand} {yt : TypeId} {a : Option Addr} {n c : Nat} [hu : UTy P t (.slice d)] (hx : ρ x = .slice a n c) (hy : ρ y = .slice none 0 0) : Val P ρ (.binOp .neq t x y yt) ty w (.bool !a.isNone) := by
  refine ⟨fun _ _ _ _ => ?_⟩
  simp only [execOp, hx, hy]
  have h1 : (binOp .neq t (.slice a n c) (.slice none 0 0)).run P w = .ok (.bool !a.isNone) w := _root_.Go.run_neq_slice_nil w t d a n c hu.eq
  refine run_value ?_
  simp [eqGuard, h1]
/-- Another name for the value. -/
theorem Val.as {op : Op} {v v' : Value} (h : Val P ρ op ty w v) (he : v = v') : Val P ρ op ty w v' := he ▸ h
theorem Val.shrF {t yt : TypeId} {x y : Operand} {k k' : IntKind} {a s : Nat} (hx : ρ x = .int k a) (hy : ρ y = .int k' s) (ha : Fits k a) : Val P ρ (.binOp .shr t x y yt) ty w (.int k ((a >>> s : Nat) : Int)) := Val.shr hx hy ha.lt
end
end Go.Proofs.Ytcibdcfdchpnpaa.X
