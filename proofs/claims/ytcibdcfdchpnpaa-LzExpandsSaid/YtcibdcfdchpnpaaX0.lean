/- A small calculus over the model's own walk rules: environments as functions, one law for each operation, regions in text order and in any order. Nothing is assumed. -/
import Derived.OrdersHeld
import Derived.Tactics
import Derived.Laws.AppendOwn
import Derived.Laws.OwnMore
import Derived.Laws.MakeOwn
import Derived.Below
import Derived.WalkKit
import Derived.KernelRfl
namespace Go.Proofs.Ytcibdcfdchpnpaa.X
open Go Go.RowKit
set_option linter.unusedSimpArgs false
set_option linter.unusedVariables false

/-! ### environments -/
abbrev Env := Nat → Value
def upd (e : Env) (d : Nat) (v : Value) : Env := fun t => bif Nat.beq t d then v else e t
def putd (e : Env) : Option Nat → Value → Env
  | some d, v => upd e d v
  | none, _ => e
def act (n : Nat) (e : Env) : Act := { tmps := Array.ofFn (n := n) fun i => e i.val, defers := [] }
def ev (n : Nat) (e : Env) : Operand → Value
  | .tmp t => bif Nat.blt t n then e t else undef
  | .const v => v
  | .global g => .pointer (some ⟨g, 0, none⟩)
  | .func f => .func (.func f) #[] #[]

theorem beq_nat (a b : Nat) : Nat.beq a b = decide (a = b) := by
  by_cases h : a = b
  · subst h; simp
  · have : ¬ (Nat.beq a b = true) := fun hb => h (Nat.eq_of_beq_eq_true hb)
    simp [h, this]

theorem exists_min (p : Nat → Prop) (h : ∃ m, p m) : ∃ m, p m ∧ ∀ k, p k → m ≤ k := by
  obtain ⟨m, hm⟩ := h
  induction m using Nat.strongRecOn with
  | _ m ih =>
    by_cases h : ∃ k, k < m ∧ p k
    · obtain ⟨k, hk, hp⟩ := h; exact ih k hk hp
    · exact ⟨m, hm, fun k hk => Nat.le_of_not_lt fun hlt => h ⟨k, hlt, hk⟩⟩

theorem blt_nat (a b : Nat) : Nat.blt a b = decide (a < b) := by
  by_cases h : a < b
  · simp [Nat.blt_eq, h]
  · have : ¬ (Nat.blt a b = true) := by rw [Nat.blt_eq]; exact h
    simp [h, this]

theorem eval_act (n : Nat) (e : Env) : (act n e).eval = ev n e := by
  funext x
  cases x with
  | tmp t =>
    simp only [Act.eval, act, ev, blt_nat]
    by_cases h : t < n
    · simp [h]
    · simp [h]
  | _ => rfl

theorem put_act (n : Nat) (e : Env) (d : Option Nat) (v : Value) : (act n e).put d v = act n (putd e d v) := by
  cases d with
  | none => rfl
  | some d =>
    simp only [Act.put, act, putd, Act.mk.injEq, and_true]
    apply Array.ext
    · simp
    · intro i h1 h2
      simp only [Array.size_setIfInBounds, Array.size_ofFn] at h1
      rw [Array.getElem_setIfInBounds (by simpa using h1)]
      simp only [Array.getElem_ofFn, upd, beq_nat]
      by_cases h : d = i
      · subst h; simp
      · have h' : ¬ i = d := fun e => h e.symm
        simp [h, h']

/-! ### exits -/
abbrev Post := Exit → Env → World → Prop
def lift (n : Nat) (Q : Post) : Exit → Act → World → Prop := fun x a w => ∃ e, a = act n e ∧ Q x e w
def thn (K : Env → World → Prop) (Q : Post) : Post
  | .normal, e, w => K e w
  | x, e, w => Q x e w
def inBlk (id : Nat) (Q : Post) : Post
  | .exit id', e, w => if id' = id then Q .normal e w else Q (.exit id') e w
  | x, e, w => Q x e w

def C (P : Program) (n : Nat) (c : Code) (Q : Post) (e : Env) (w : World) : Prop := c.wp P (lift n Q) (act n e) w
def O (P : Program) (n : Nat) (ops : Array Oper) (Q : Post) (l : List Oper) (e : Env) (w : World) : Prop := wpList P ops (lift n Q) l (act n e) w

section
variable {P : Program} {n : Nat} {Q : Post} {e : Env} {w : World}

theorem lift_mono {Q Q' : Post} (h : ∀ x e w, Q x e w → Q' x e w) (x : Exit) (a : Act) (w : World) : lift n Q x a w → lift n Q' x a w := fun ⟨e, he, hq⟩ => ⟨e, he, h _ _ _ hq⟩

theorem C.mono {c : Code} {Q' : Post} (h : C P n c Q e w) (hq : ∀ x e w, Q x e w → Q' x e w) : C P n c Q' e w :=
  wp_mono h (lift_mono hq)

theorem C.seq {x y : Code} (h : C P n x (thn (C P n y Q) Q) e w) : C P n (.seq x y) Q e w := by
  refine wp_seq (wp_mono h ?_)
  rintro ex a w ⟨e, rfl, hq⟩
  cases ex <;> first | exact hq | exact ⟨e, rfl, hq⟩
theorem C.skip (h : Q .normal e w) : C P n .skip Q e w := wp_skip ⟨e, rfl, h⟩
theorem C.exit {id : Nat} (h : Q (.exit id) e w) : C P n (.exit id) Q e w := wp_exit ⟨e, rfl, h⟩
theorem C.ret (h : Q .ret e w) : C P n .ret Q e w := wp_ret ⟨e, rfl, h⟩
theorem C.block {id : Nat} {c : Code} (h : C P n c (inBlk id Q) e w) : C P n (.block id c) Q e w := by
  refine wp_block (wp_mono h ?_)
  rintro ex a w ⟨e, rfl, hq⟩
  cases ex with
  | exit id' =>
    simp only [inBlk] at hq
    simp only [Exit.inBlock]
    by_cases hid : id' = id
    · rw [if_pos hid] at hq ⊢; exact ⟨e, rfl, hq⟩
    · rw [if_neg hid] at hq ⊢; exact ⟨e, rfl, hq⟩
  | _ => exact ⟨e, rfl, hq⟩
theorem C.cond {c : Operand} {x y : Code} {t : Bool} (hc : ev n e c = .bool t) (ht : t = true → C P n x Q e w) (hf : t = false → C P n y Q e w) :
    C P n (.cond c x y) Q e w :=
  wp_cond_split (by rw [eval_act]; exact hc) ht hf
theorem C.condT {c : Operand} {x y : Code} {t : Bool} (hc : ev n e c = .bool t) (ht : t = true) (h : C P n x Q e w) : C P n (.cond c x y) Q e w :=
  C.cond hc (fun _ => h) (fun h' => by rw [ht] at h'; cases h')
theorem C.condF {c : Operand} {x y : Code} {t : Bool} (hc : ev n e c = .bool t) (ht : t = false) (h : C P n y Q e w) : C P n (.cond c x y) Q e w :=
  C.cond hc (fun h' => by rw [ht] at h'; cases h') (fun _ => h)

/-- A loop: 'm' rounds are left at most. -/
theorem C.loop {c : Code} (I : Nat → Env → World → Prop) (m : Nat) (h0 : I m e w)
    (round : ∀ m e w, I m e w → C P n c (thn (fun e' w' => ∃ m', m' < m ∧ I m' e' w') Q) e w) : C P n (.loop c) Q e w := by
  classical
  let J : Act → World → Prop := fun a w => ∃ m e, a = act n e ∧ I m e w
  let μ : Act → World → Nat := fun a w => if h : J a w then Classical.choose (exists_min _ h) else 0
  have hspec : ∀ a w, J a w → (∃ e, a = act n e ∧ I (μ a w) e w) ∧ ∀ k, (∃ e, a = act n e ∧ I k e w) → μ a w ≤ k := by
    intro a w h
    have : μ a w = Classical.choose (exists_min _ h) := dif_pos h
    rw [this]
    exact Classical.choose_spec (exists_min _ h)
  refine wp_loop J μ ⟨m, e, rfl, h0⟩ ?_
  intro a w hJ
  obtain ⟨⟨e1, he1, hI⟩, _⟩ := hspec a w hJ
  generalize μ a w = m1 at *
  subst he1
  refine wp_mono (round m1 e1 w hI) ?_
  rintro ex a' w' ⟨e', rfl, hq⟩
  cases ex with
  | normal =>
    obtain ⟨m', hlt, hI'⟩ := hq
    have hJ' : J (act n e') w' := ⟨m', e', rfl, hI'⟩
    exact ⟨hJ', Nat.lt_of_le_of_lt ((hspec _ _ hJ').2 m' ⟨e', rfl, hI'⟩) hlt⟩
  | _ => exact ⟨e', rfl, hq⟩

theorem C.region {id : Nat} {l : List Oper} (h : O P n l.toArray Q l e w) : C P n (.region id l.toArray false) Q e w := wp_region_lit h

theorem O.nil {ops : Array Oper} (h : Q .normal e w) : O P n ops Q [] e w := ⟨e, rfl, h⟩

/-- An operation leaves a value, and the world as it was. -/
structure Val (P : Program) (ρ : Operand → Value) (op : Op) (ty : TypeId) (w : World) (v : Value) : Prop where
  run : ∀ (dst : Option Tmp) (pos : String) (after : Array Edge) (guard : Option (Nat × Bool)), (execOp ρ ⟨dst, op, ty, pos, after, guard⟩).run P w = .ok (.value v) w
/-- An operation leaves a value, and another world. -/
structure Vals (P : Program) (ρ : Operand → Value) (op : Op) (ty : TypeId) (w : World) (v : Value) (w' : World) : Prop where
  run : ∀ (dst : Option Tmp) (pos : String) (after : Array Edge) (guard : Option (Nat × Bool)), (execOp ρ ⟨dst, op, ty, pos, after, guard⟩).run P w = .ok (.value v) w'
/-- An operation leaves no value, and another world. -/
structure Skips (P : Program) (ρ : Operand → Value) (op : Op) (ty : TypeId) (w : World) (w' : World) : Prop where
  run : ∀ (dst : Option Tmp) (pos : String) (after : Array Edge) (guard : Option (Nat × Bool)), (execOp ρ ⟨dst, op, ty, pos, after, guard⟩).run P w = .ok .skip w'

section
variable {ops : Array Oper} {rest : List Oper} {dst : Option Tmp} {op : Op} {ty : TypeId} {pos : String} {after : Array Edge}

theorem O.of_wp {o : Oper} (hw : Region.wanted o (yielded ops (act n e).tmps) = true) (h : o.wp P (act n e) w (wpList P ops (lift n Q) rest) (lift n Q)) : O P n ops Q (o :: rest) e w := by
  unfold O wpList
  rw [if_pos hw]
  exact .inl h

theorem O.vals {v : Value} {w' : World} (hv : Vals P (ev n e) op ty w v w') (h : O P n ops Q rest (putd e dst v) w') :
    O P n ops Q (⟨dst, op, ty, pos, after, none⟩ :: rest) e w := by
  refine O.of_wp rfl ?_
  unfold Oper.wp
  rw [eval_act, hv.run]
  show wpList P ops (lift n Q) rest ((act n e).put dst v) w'
  rw [put_act]; exact h
theorem O.val {v : Value} (hv : Val P (ev n e) op ty w v) (h : O P n ops Q rest (putd e dst v) w) :
    O P n ops Q (⟨dst, op, ty, pos, after, none⟩ :: rest) e w := O.vals ⟨hv.run⟩ h
theorem O.skips {w' : World} (hv : Skips P (ev n e) op ty w w') (h : O P n ops Q rest (putd e dst undef) w') :
    O P n ops Q (⟨dst, op, ty, pos, after, none⟩ :: rest) e w := by
  refine O.of_wp rfl ?_
  unfold Oper.wp
  rw [eval_act, hv.run]
  show wpList P ops (lift n Q) rest ((act n e).put dst undef) w'
  rw [put_act]; exact h

/-- The guard of an operation: what the operation 'j' left. -/
theorem yielded_act {j t : Nat} {c : Bool} (hj : (ops[j]?).bind (·.dst) = some t) (ht : ev n e (.tmp t) = .bool c) : yielded ops (act n e).tmps j = some c := by
  unfold yielded
  rw [hj]
  simp only [Option.bind_some, act]
  simp only [ev, blt_nat] at ht
  by_cases h : t < n
  · simp [h] at ht ⊢; rw [ht]
  · simp [h, undef] at ht
theorem wanted_act {o : Oper} {j t : Nat} {b c : Bool} (hg : o.guard = some (j, b)) (hj : (ops[j]?).bind (·.dst) = some t) (ht : ev n e (.tmp t) = .bool c) :
    Region.wanted o (yielded ops (act n e).tmps) = (c == b) := by
  unfold Region.wanted
  rw [hg]
  simp only [yielded_act hj ht]
  cases b <;> cases c <;> rfl

/-- A guarded operation that is carried out is as one without a guard. -/
theorem O.gyes {j t : Nat} {b c : Bool} (hj : (ops[j]?).bind (·.dst) = some t) (ht : ev n e (.tmp t) = .bool c) (hc : c = b)
    (h : O P n ops Q (⟨dst, op, ty, pos, after, none⟩ :: rest) e w) : O P n ops Q (⟨dst, op, ty, pos, after, some (j, b)⟩ :: rest) e w := by
  have hw := wanted_act (o := ⟨dst, op, ty, pos, after, some (j, b)⟩) (n := n) (e := e) rfl hj ht
  unfold O wpList at h ⊢
  rw [if_pos (by rfl)] at h
  rw [if_pos (by rw [hw, hc]; simp)]
  exact h
theorem O.gno {j t : Nat} {b c : Bool} (hj : (ops[j]?).bind (·.dst) = some t) (ht : ev n e (.tmp t) = .bool c) (hc : c = !b)
    (h : O P n ops Q rest (putd e dst undef) w) : O P n ops Q (⟨dst, op, ty, pos, after, some (j, b)⟩ :: rest) e w := by
  have hw := wanted_act (o := ⟨dst, op, ty, pos, after, some (j, b)⟩) (n := n) (e := e) rfl hj ht
  unfold O
  rw [wpList, if_neg (by rw [hw, hc]; simp), put_act]
  exact h
end
end

/-! ### calls -/
/-- The call returns, with a value and a world of which R is true. -/
def Call (P : Program) (f : FuncId) (args : Array Value) (w : World) (R : Value → World → Prop) : Prop :=
  Calls P f args w fun e w' => ∃ v, e = .returned v ∧ R v w'
theorem Call.run {P : Program} {f : FuncId} {args : Array Value} {w : World} {R : Value → World → Prop} (h : Call P f args w R) : Calls P f args w fun e w' => ∃ v, e = .returned v ∧ R v w' := h
theorem Call.mono {P : Program} {f : FuncId} {args : Array Value} {w : World} {R R' : Value → World → Prop} (h : Call P f args w R) (hr : ∀ v w', R v w' → R' v w') : Call P f args w R' :=
  Calls.mono h fun _ _ ⟨v, he, hR⟩ => ⟨v, he, hr _ _ hR⟩

/-- A function of Go's own text. -/
class FuncOk (P : Program) (f : FuncId) : Prop where
  ok : ∃ fn, P.funcs[f]? = some fn ∧ (fn.name == "runtime.NumGoroutine") = false ∧ fn.body.isNone = false

section
variable {P : Program} {n : Nat} {Q : Post} {e : Env} {w : World} {ops : Array Oper} {rest : List Oper} {dst : Option Tmp} {ty : TypeId} {pos : String} {after : Array Edge}

theorem run_call {ρ : Operand → Value} {f : FuncId} [hf : FuncOk P f] {x : Operand} {args : Array Operand} {ats : Array TypeId} {first captured : Array Value} (hx : ρ x = .func (.func f) first captured)
    (dst : Option Tmp) (pos : String) (after : Array Edge) (guard : Option (Nat × Bool)) :
    (execOp ρ ⟨dst, .call { callee := .value x, args := args, argTypes := ats }, ty, pos, after, guard⟩).run P w = .ok (.enter f (first ++ args.map ρ ++ captured)) w := by
  obtain ⟨fn, h1, h2, h3⟩ := hf.ok
  simp only [execOp, resolve, hx]
  have h2' : ¬ fn.name = "runtime.NumGoroutine" := by simpa using h2
  have h3' : ¬ fn.body = none := by intro h; rw [h] at h3; cases h3
  simp [Deferred.ofValue, invoke, callFunc, h1, h2', h3', go_sem]

theorem args_list (first captured : Array Value) (args : Array Operand) (g : Operand → Value) : first ++ args.map g ++ captured = (first.toList ++ args.toList.map g ++ captured.toList).toArray := by
  apply Array.toList_inj.1; simp
theorem O.call {f : FuncId} [FuncOk P f] {x : Operand} {args : Array Operand} {ats : Array TypeId} {first captured : Array Value} {R : Value → World → Prop}
    (hx : ev n e x = .func (.func f) first captured)
    (hc : Call P f (first.toList ++ args.toList.map (ev n e) ++ captured.toList).toArray w R) (h : ∀ v w', R v w' → O P n ops Q rest (putd e dst v) w') :
    O P n ops Q (⟨dst, .call { callee := .value x, args := args, argTypes := ats }, ty, pos, after, none⟩ :: rest) e w := by
  refine O.of_wp rfl ?_
  unfold Oper.wp
  rw [eval_act, run_call hx, args_list]
  refine Calls.mono hc ?_
  rintro ex w' ⟨v, rfl, hR⟩
  show wpList P ops (lift n Q) rest ((act n e).put dst v) w'
  rw [put_act]; exact h v w' hR

/-- What a body hands back. -/
def retv (n : Nat) (e : Env) : List Tmp → Value
  | [a] => ev n e (.tmp a)
  | l => .tuple (l.map fun a => ev n e (.tmp a)).toArray
/-- What a body leaves. -/
def body (n : Nat) (rs : List Tmp) (R : Value → World → Prop) : Post := fun x e w =>
  match x with
  | .normal | .ret => R (retv n e rs) w
  | _ => False

def argEnv (args : List Value) : Env := fun t => args.getD t undef

theorem act_args (n : Nat) (args : List Value) (h : args.length ≤ n) : ({ tmps := args.toArray ++ Array.replicate (n - args.length) undef, defers := [] } : Act) = act n (argEnv args) := by
  simp only [act, Act.mk.injEq, and_true]
  apply Array.ext
  · simp; omega
  · intro i h1 h2
    simp only [Array.getElem_ofFn, argEnv]
    rw [Array.getElem_append]
    split
    · rename_i hi; simp at hi; simp [List.getD, hi]
    · rename_i hi; simp at hi; simp [List.getD, hi]

theorem evt (n : Nat) (e : Env) (t : Nat) : (act n e).tmps.getD t undef = ev n e (.tmp t) := by
  have := congrFun (eval_act n e) (.tmp t)
  exact this

theorem evt' (n : Nat) (e : Env) (t : Nat) : (act n e).tmps[t]?.getD undef = ev n e (.tmp t) := by simpa using evt n e t

theorem run_results (fn : Func) (rs : List Tmp) (h : fn.results = (rs.map ResultVar.tmp).toArray) (e : Env) (w : World) (hl : rs.length ≤ 4) : (results fn (act n e).tmps).run P w = .ok (retv n e rs) w := by
  unfold results
  rw [h]
  match rs, hl with
  | [], _ => simp [go_sem, retv]
  | [a], _ => simp [go_sem, retv, evt']
  | [a, b], _ => simp [go_sem, retv, evt']
  | [a, b, c], _ => simp [go_sem, retv, evt']
  | [a, b, c, d], _ => simp [go_sem, retv, evt']

theorem Call.of {f : FuncId} {fn : Func} {c : Code} {args : List Value} {rs : List Tmp} {R : Value → World → Prop} (hf : P.funcs[f]? = some fn) (hb : fn.body = some c) (hn : fn.ntmps = n) (hr : fn.results = (rs.map ResultVar.tmp).toArray) (hrl : rs.length ≤ 4) (hl : args.length ≤ n)
    (h : C P n c (body n rs R) (argEnv args) w) : Call P f args.toArray w R := by
  refine calls_of_wp hf hb ?_
  rw [hn, show args.toArray.size = args.length from by simp, act_args n args hl]
  refine wp_mono h ?_
  rintro ex a w' ⟨e', rfl, hq⟩
  have hr' := run_results (P := P) (n := n) fn rs hr e' w' hrl
  cases ex with
  | normal => exact ⟨rfl, _, hr', _, rfl, hq⟩
  | ret => exact ⟨rfl, _, hr', _, rfl, hq⟩
  | exit id => exact hq.elim
  | goto l => exact hq.elim
  | panic ch => exact hq.elim
  | outgrown => exact hq.elim
end

attribute [irreducible] O C Call
end Go.Proofs.Ytcibdcfdchpnpaa.X
