/- Interfaces: what is held, and methods called through it. Nothing is assumed. -/
import Derived.Test.YtcibdcfdchpnpaaX10
import Derived.Laws.IdiomStrings
namespace Go.Proofs.Ytcibdcfdchpnpaa.X
open Go Go.RowKit
set_option linter.unusedSimpArgs false
set_option linter.unusedVariables false
/-- What is told of a type's method: its path, its function, that it wants a pointer. -/
def methB (P : Program) (t : TypeId) (name : String) : Option (List FieldStep × FuncId × Bool) :=
  match P.info? t with
  | some i => match i.methods.find? (·.name == name) with
    | some m => match m.func with
      | some (f, p) => some (m.path.toList, f, p)
      | none => none
    | none => none
  | none => none
/-- A pointer's own method. -/
class MethOwn (P : Program) (t : TypeId) (name : String) (f : outParam FuncId) : Prop where
  row : methB P t name = some ([], f, true)
  ptr : ∃ d, P.underlying t = some (.pointer d)
/-- A struct's field that is a pointer: where it lies. -/
def viaB (P : Program) (s k : Nat) : Option (Nat × Bool) :=
  match P.underlying s with
  | some (.struct fs) => match fs[k]? with
    | some fd => match P.info? fd.type, P.underlying fd.type with
      | some i, some (.pointer _) => some (fd.offset, i.size != 0)
      | _, _ => none
    | none => none
  | _ => none
/-- A method of what lies in a struct's field, a pointer. -/
class MethVia (P : Program) (t : TypeId) (name : String) (f : outParam FuncId) (off : outParam Nat) : Prop where
  row : ∃ s k, methB P t name = some ([⟨s, k, true⟩], f, true) ∧ viaB P s k = some (off, true)
theorem viaB_row {P : Program} {s k off : Nat} (h : viaB P s k = some (off, true)) : ∃ fields fd d i, P.underlying s = some (.struct fields) ∧ fields[k]? = some fd ∧ fd.offset = off ∧ P.info? fd.type = some i ∧ i.size ≠ 0 ∧ P.underlying fd.type = some (.pointer d) := by
  unfold viaB at h
  split at h
  · rename_i fs hfs
    split at h
    · rename_i fd hfd
      split at h
      · rename_i i d hi hd
        simp only [Option.some.injEq, Prod.mk.injEq, bne_iff_ne] at h
        exact ⟨fs, fd, d, i, hfs, hfd, h.1, hi, h.2, hd⟩
      · cases h
    · cases h
  · cases h
section
variable {P : Program} {ρ : Operand → Value} {ty : TypeId} {w w0 : World} {L : List Res}
theorem depth_pos (k : Nat) : ∃ n, k + Made.depth = n + 1 := by
  have h : Made.depth ≠ 0 := by decide
  exact ⟨k + (Made.depth - 1), by omega⟩
theorem methB_row {t : TypeId} {name : String} {path : List FieldStep} {f : FuncId} {p : Bool} (h : methB P t name = some (path, f, p)) : ∃ i m, P.info? t = some i ∧ i.methods.find? (·.name == name) = some m ∧ m.path.toList = path ∧ m.func = some (f, p) := by
  unfold methB at h
  split at h
  · rename_i i hi
    split at h
    · rename_i m hm
      split at h
      · rename_i f' p' hf
        simp only [Option.some.injEq, Prod.mk.injEq] at h
        obtain ⟨h1, rfl, rfl⟩ := h
        exact ⟨i, m, hi, hm, h1, hf⟩
      · cases h
    · cases h
  · cases h
theorem run_method_own {t : TypeId} {name : String} {f : FuncId} [h : MethOwn P t name f] (v : Value) (n : Nat) : (method (n + 1) t v name).run P w = .ok (f, v) w := by
  obtain ⟨i, m, h1, h2, h3, h4⟩ := methB_row h.row
  obtain ⟨d, hd⟩ := h.ptr
  simp [method, typeInfo, h1, h2, h3, h4, follow, receiverAt, run_underlying hd, Place.get]
theorem run_nilAhead_own {t : TypeId} {name : String} {f : FuncId} [h : MethOwn P t name f] (v : Value) (n : Nat) : (nilAhead (n + 1) t v name).run P w = .ok (some false) w := by
  obtain ⟨i, m, h1, h2, h3, h4⟩ := methB_row h.row
  simp [nilAhead, typeInfo, h1, h2, h3, h4, followBlind]
theorem run_method_via {t : TypeId} {name : String} {f : FuncId} {off : Nat} [h : MethVia P t name f off] {a : Addr} {v : Value} (hc : w.cell? (a.add off) = some v) (n : Nat) : (method (n + 1) t (.pointer (some a)) name).run P w = .ok (f, v) w := by
  obtain ⟨s, k, hrow, hvia⟩ := h.row
  obtain ⟨fields, fd, d, i', g1, g2, g3, g4, g5, g6⟩ := viaB_row hvia
  obtain ⟨i, m, h1, h2, h3, h4⟩ := methB_row hrow
  have hagg : (isAgg fd.type).run P w = .ok false w := by
    unfold isAgg; simp [run_underlying g6]
  have hload : (loadVar fd.type (a.add off)).run P w = .ok v w := by
    simp [loadVar, hagg, load, hc, Sem.run]
  simp [method, typeInfo, h1, h2, h3, h4, follow, receiverAt, run_underlying g1, run_underlying g6, g2, Place.get, asAddr, fieldPlace, sizeOf, g4, g5, g3, hload]
theorem Val.makeIface {t d : TypeId} {x : Operand} {v : Value} [hu : UTy P t (.pointer d)] (hx : ρ x = v) : Val P ρ (.makeInterface t x) ty w (.iface t v) := by
  refine ⟨fun _ _ _ _ => ?_⟩
  simp only [execOp, hx]
  refine run_value ?_
  simp [Instr.makeInterface, run_underlying hu.eq]
theorem Val.makeFunc1 {fn : Fn} {x : Operand} {v : Value} (hx : ρ x = v) : Val P ρ (.makeFunc fn #[x] #[]) ty w (.func fn #[v] #[]) := by
  refine ⟨fun _ _ _ _ => ?_⟩
  simp only [execOp]
  refine run_value ?_
  simp [Instr.makeFunc, hx]
theorem Val.nilCheckM {x : Operand} {t : TypeId} {name : String} {f : FuncId} {v : Value} {c : Array Value} [h : MethOwn P t name f] (hx : ρ x = .func (.method name) #[.iface t v] c) : Val P ρ (.nilCheck x) ty w (.func (.method name) #[.iface t v] c) := by
  refine ⟨fun _ _ _ _ => ?_⟩
  simp only [execOp, hx]
  obtain ⟨n, hn⟩ := depth_pos P.types.size
  have := run_nilAhead_own (P := P) (w := w) (t := t) (name := name) v n
  simp [program, Sem.run, hn] at this ⊢
  simp [this]
theorem run_invoke {x : Operand} {name : String} {args : Array Operand} {ats : Array TypeId} {t : TypeId} {v r : Value} {f : FuncId} [hf : FuncOk P f] (hx : ρ x = .iface t v) (hm : ∀ n, (method (n + 1) t v name).run P w = .ok (f, r) w)
    (dst : Option Tmp) (pos : String) (after : Array Edge) (guard : Option (Nat × Bool)) :
    (execOp ρ ⟨dst, .call { callee := .invoke x name, args := args, argTypes := ats }, ty, pos, after, guard⟩).run P w = .ok (.enter f (#[r] ++ args.map ρ)) w := by
  obtain ⟨fn, h1, h2, h3⟩ := hf.ok
  have h2' : ¬ fn.name = "runtime.NumGoroutine" := by simpa using h2
  have h3' : ¬ fn.body = none := by intro h; rw [h] at h3; cases h3
  obtain ⟨n, hn⟩ := depth_pos P.types.size
  have hm := hm n
  have h0 : (#[Value.iface t v] ++ Array.map ρ args)[0]? = some (Value.iface t v) := by simp [Array.getElem?_append]
  have he : (#[Value.iface t v] ++ Array.map ρ args).extract 1 (#[Value.iface t v] ++ Array.map ρ args).size = Array.map ρ args := by
    apply Array.toList_inj.1; simp; exact List.take_of_length_le (by simp)
  have hc : (callMethod (.iface t v) name (Array.map ρ args)).run P w = .ok (.enter f (#[r] ++ Array.map ρ args)) w := by
    unfold callMethod
    simp only [Sem.run_bind, run_program, Result.andThen_ok, hn, hm]
    simp [callFunc, go_sem, h1, h2', h3']
  simp only [execOp, resolve, hx]
  simp only [Sem.run_bind, Sem.run_pure, Result.andThen_ok, invoke, h0, he, hc]
end
section
variable {P : Program} {n : Nat} {Q : Post} {e : Env} {w w0 : World} {ops : Array Oper} {rest : List Oper} {dst : Option Tmp} {ty : TypeId} {pos : String} {after : Array Edge} {L L' : List Res}
variable {S : World → Prop} {need : List Nat} {p : Plan} {keep : Bool}
theorem DW.invoke {x : Operand} {name : String} {args : Array Operand} {ats : Array TypeId} {t : TypeId} {v r : Value} {f : FuncId} [FuncOk P f] {R : Value → World → Prop} (hx : ev n e x = .iface t v) (hm : ∀ k, (method (k + 1) t v name).run P w = .ok (f, r) w)
    (hc : Call P f (r :: args.toList.map (ev n e)).toArray w R) (h : ∀ v w', R v w' → (keep = true → S w → S w') ∧ D P n ops Q S need p (putd e dst v) w') :
    DW P n ops Q S need ⟨dst, .call { callee := .invoke x name, args := args, argTypes := ats }, ty, pos, after, none⟩ keep p e w := by
  unfold DW
  refine Op1.plain rfl ?_
  unfold Oper.wp
  rw [eval_act, run_invoke hx hm, show (#[r] ++ args.map (ev n e)) = (r :: args.toList.map (ev n e)).toArray from by apply Array.toList_inj.1; simp]
  refine Calls.mono (Call.run hc) ?_
  rintro ex w' ⟨v, rfl, hR⟩
  exact ⟨putd e dst v, put_act _ _ _ _, h v w' hR⟩
theorem O.invoke {x : Operand} {name : String} {args : Array Operand} {ats : Array TypeId} {t : TypeId} {v r : Value} {f : FuncId} [FuncOk P f] {R : Value → World → Prop} (hx : ev n e x = .iface t v) (hm : ∀ k, (method (k + 1) t v name).run P w = .ok (f, r) w)
    (hc : Call P f (r :: args.toList.map (ev n e)).toArray w R) (h : ∀ v w', R v w' → O P n ops Q rest (putd e dst v) w') :
    O P n ops Q (⟨dst, .call { callee := .invoke x name, args := args, argTypes := ats }, ty, pos, after, none⟩ :: rest) e w := by
  refine O.of_wp rfl ?_
  unfold Oper.wp
  rw [eval_act, run_invoke hx hm, show (#[r] ++ args.map (ev n e)) = (r :: args.toList.map (ev n e)).toArray from by apply Array.toList_inj.1; simp]
  refine Calls.mono (Call.run hc) ?_
  rintro ex w' ⟨v, rfl, hR⟩
  show wpList P ops (lift n Q) rest ((act n e).put dst v) w'
  rw [put_act]
  have := h v w' hR
  unfold O at this
  exact this
end
/-! ### a text's bytes, as a row of one's own -/
theorem bytesRow_take (s : ByteArray) (cap : Nat) : (bytesRow s cap).toList.take s.size = (sb s).map (nat_ .u8) := by
  unfold bytesRow sb
  simp
theorem bytesRow_size (s : ByteArray) (cap : Nat) (h : s.size ≤ cap) : (bytesRow s cap).size = cap := by
  unfold bytesRow
  simp
  omega
theorem Vals.strBytes {P : Program} {ρ : Operand → Value} {ty : TypeId} {w w0 : World} {L : List Res} {t d q : TypeId} {x : Operand} {s : ByteArray} [ht : UTy P t .string] [hd : UTy P d (.slice q)] [hq : UTy P q (.int .u8)] (hx : ρ x = .string s) (hl : (sb s).length ≤ 140737488355328) (H : Own w0 w L) :
    ∃ v w', Vals P ρ (.convert t d x) ty w v w' ∧ Own w0 w' (row1 v q (nat_ .u8) (sb s) :: L) := by
  have hr := run_bytes_of_string (P := P) w t d q s ht.eq hd.eq hq.eq
  rw [sb_len] at hl
  have hge := grownCap_ge w s.size 0 q
  have hle := grownCap_le_maxLen w s.size 0 q (by simp only [maxLen]; omega)
  generalize grownCap w s.size 0 q = cap at hr hge hle
  refine ⟨.slice (some ⟨w.heap.size, 0, none⟩) s.size cap, w.drew.alloc (.cells (bytesRow s cap) q ((bytesRow s cap).size, (bytesRow s cap).size + 1)), ⟨fun _ _ _ _ => ?_⟩, ?_⟩
  · simp only [execOp, hx]
    exact run_value hr
  · have H1 := H.drew
    refine Own.update (w := w.drew) (A := []) (A' := [row1 _ q (nat_ .u8) (sb s)]) H1 (H1.below.alloc H1.below.size _) ?_ (List.pairwise_singleton _ _) ?_ ?_
    · intro r hr'
      simp only [List.mem_singleton] at hr'; subst hr'
      refine ⟨s.size, by simp [sb_len], .inr ⟨w.heap.size, cap, bytesRow s cap, _, rfl, H.below.size, heap_alloc_new w.drew _, .inr (Nat.le_refl _), hge, hle, ?_, ?_⟩⟩
      · rw [bytesRow_size s cap hge]; omega
      · rw [Nat.mul_one]; exact bytesRow_take s cap
    · intro r hr' k hk
      simp only [List.mem_singleton] at hr'; subst hr'
      simp only [Res.foot, Value.ownBlock, Option.some.injEq] at hk
      exact .inr (by subst hk; exact Nat.le_refl _)
    · intro k hk _
      exact Below.heap_alloc w.drew _ k hk
section
variable {P : Program} {n : Nat} {Q : Post} {e : Env} {w w0 : World} {ops : Array Oper} {rest : List Oper} {dst : Option Tmp} {ty : TypeId} {pos : String} {after : Array Edge} {L L' : List Res}
variable {S : World → Prop} {need : List Nat} {p : Plan} {keep : Bool}
theorem O.strBytes {t d q : TypeId} {x : Operand} {s : ByteArray} [UTy P t .string] [UTy P d (.slice q)] [UTy P q (.int .u8)] (hx : ev n e x = .string s) (hl : (sb s).length ≤ 140737488355328) (H : Own w0 w L)
    (h : ∀ v w, Own w0 w (row1 v q (nat_ .u8) (sb s) :: L) → O P n ops Q rest (putd e dst v) w) : O P n ops Q (⟨dst, .convert t d x, ty, pos, after, none⟩ :: rest) e w := by
  obtain ⟨v, w', hv, H'⟩ := Vals.strBytes (P := P) (ρ := ev n e) (ty := ty) (t := t) (d := d) hx hl H
  exact O.vals hv (h _ _ H')
theorem DW.strBytes {t d q : TypeId} {x : Operand} {s : ByteArray} [UTy P t .string] [UTy P d (.slice q)] [UTy P q (.int .u8)] (hx : ev n e x = .string s) (hl : (sb s).length ≤ 140737488355328) (H : Own w0 w L)
    (h : ∀ v w', Own w0 w' (row1 v q (nat_ .u8) (sb s) :: L) → (keep = true → S w → S w') ∧ D P n ops Q S need p (putd e dst v) w') : DW P n ops Q S need ⟨dst, .convert t d x, ty, pos, after, none⟩ keep p e w := by
  obtain ⟨v, w', hv, H'⟩ := Vals.strBytes (P := P) (ρ := ev n e) (ty := ty) (t := t) (d := d) hx hl H
  exact DW.vals hv (h _ _ H').1 (h _ _ H').2
end
end Go.Proofs.Ytcibdcfdchpnpaa.X
