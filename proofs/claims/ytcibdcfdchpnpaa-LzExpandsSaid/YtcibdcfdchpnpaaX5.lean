/- A region whose order is open: a plan in which what only reads comes first, and what writes comes alone. Nothing is assumed. -/
import Derived.Test.YtcibdcfdchpnpaaX4
namespace Go.Proofs.Ytcibdcfdchpnpaa.X
open Go Go.RowKit
set_option linter.unusedSimpArgs false
set_option linter.unusedVariables false

inductive Plan where
  | done
  | take (i : Nat) (p : Plan)
  | takeS (i : Nat) (p : Plan)
  | solo (i : Nat) (p : Plan)
  | two (i j : Nat) (p q : Plan)
  | alt (i : Nat) (p q : Plan)

def hasEdge (ops : Array Oper) (j i : Nat) : Bool := ((ops[j]?).map fun o => o.after.any fun e => Region.binds .any e && e.on == i).getD false
def depsOf (ops : Array Oper) (j : Nat) : List Nat := ((ops[j]?).map fun o => (o.after.toList.filter fun e => Region.binds .any e).map (·.on)).getD []
/-- Is i ahead of j, along at most so many edges? -/
def reach (ops : Array Oper) : Nat → Nat → Nat → Bool
  | 0, j, i => hasEdge ops j i
  | k + 1, j, i => hasEdge ops j i || (depsOf ops j).any fun d => reach ops k d i
/-- Must the operation j leave S as it is? It must where something that leans on S may come behind it. -/
def keepB (ops : Array Oper) (need : List Nat) (j : Nat) : Bool := need.any fun i => i != j && !reach ops 3 j i
/-- What is listed has all listed that it comes behind. -/
def Closed (ops : Array Oper) (listed : Array Bool) : Prop := ∀ j oj, ops[j]? = some oj → listed.getD j false = true → ∀ e ∈ oj.after, Region.binds .any e = true → listed.getD e.on false = true
theorem Closed.nil {ops : Array Oper} (n : Nat) : Closed ops (Array.replicate n false) := fun j oj _ h => by
  by_cases hj : j < n <;> simp [Array.getElem?_replicate, hj] at h
theorem Closed.set {ops : Array Oper} {listed : Array Bool} {i : Nat} (h : Closed ops listed) (hr : i ∈ Region.ready .any ops listed) : Closed ops (listed.setIfInBounds i true) := fun j oj hj hl e he hb => by
  refine getD_set_true ?_
  by_cases hij : i = j
  · subst hij
    obtain ⟨_, o, ho, hall⟩ := mem_ready.1 hr
    rw [hj] at ho; cases ho
    exact hall e he hb
  · exact h j oj hj (by rwa [getD_set_ne false hij] at hl) e he hb
theorem no_edge {ops : Array Oper} {listed : Array Bool} {i j : Nat} (hi : listed.getD i true = false) (hall : ∀ d ∈ depsOf ops j, listed.getD d false = true) : hasEdge ops j i = false := by
  unfold hasEdge
  unfold depsOf at hall
  cases hj : ops[j]? with
  | none => rfl
  | some o =>
    rw [hj] at hall
    simp only [Option.map_some, Option.getD_some, Array.any_eq_false'] at *
    intro e he
    simp only [Bool.and_eq_true, beq_iff_eq, not_and]
    intro hb heq
    have h1 := hall e.on (List.mem_map.2 ⟨e, List.mem_filter.2 ⟨by simpa using he, hb⟩, rfl⟩)
    rw [heq] at h1
    rcases Nat.lt_or_ge i listed.size with h' | h'
    · simp [h'] at hi h1; rw [hi] at h1; cases h1
    · simp [Array.getElem?_eq_none h'] at h1
theorem no_reach {ops : Array Oper} {listed : Array Bool} {i : Nat} (hc : Closed ops listed) (hi : listed.getD i true = false) : ∀ (k j : Nat), (∀ d ∈ depsOf ops j, listed.getD d false = true) → reach ops k j i = false
  | 0, j, hall => no_edge hi hall
  | k + 1, j, hall => by
    unfold reach
    rw [no_edge hi hall, Bool.false_or, List.any_eq_false]
    intro d hd
    rw [no_reach hc hi k d ?_]
    · simp
    · intro d' hd'
      unfold depsOf at hd'
      cases hj : ops[d]? with
      | none => rw [hj] at hd'; cases hd'
      | some o =>
        rw [hj] at hd'
        simp only [Option.map_some, Option.getD_some] at hd'
        obtain ⟨e, he, rfl⟩ := List.mem_map.1 hd'
        obtain ⟨he, hb⟩ := List.mem_filter.1 he
        exact hc d o hj (hall d hd) e (by simpa using he) hb

def AnyH (P : Program) (ops : Array Oper) (Q : Exit → Act → World → Prop) (S : World → Prop) (keep : Nat → Bool) : Nat → Array Bool → Act → World → Prop
  | 0, listed, a, w => Region.ready .any ops listed = [] ∧ Q .normal a w
  | fuel + 1, listed, a, w => (Region.ready .any ops listed = [] → Q .normal a w) ∧
    ∀ i ∈ Region.ready .any ops listed, wpOp P ops Q i (fun a' w' => (keep i = true → S w → S w') ∧ AnyH P ops Q S keep fuel (listed.setIfInBounds i true) a' w') a w

section
variable {P : Program} {ops : Array Oper} {Q : Exit → Act → World → Prop} {S : World → Prop} {keep : Nat → Bool}

theorem AnyH.any : ∀ (fuel : Nat) (listed : Array Bool) (a : Act) (w : World), AnyH P ops Q S keep fuel listed a w → wpAny P .any ops Q fuel listed a w
  | 0, _, _, _, h => h
  | fuel + 1, _, _, _, h => ⟨h.1, fun i hi => wpOp_mono (fun a' w' h' => AnyH.any fuel _ a' w' h'.2) (h.2 i hi)⟩

theorem AnyH.first {T : World → Prop} {i : Nat} {oi : Oper} {v : Value} (hi : ops[i]? = some oi) (hsel : ∀ (j : Nat) (o : Oper) cs b, ops[j]? = some o → o.op ≠ .select cs b)
    (hQ : ∀ c a w, Q (.panic c) (a.put oi.dst v) w → Q (.panic c) a w)
    (hT : ∀ j, j ≠ i → reach ops 3 j i = false → ∀ w w', T w → (keep j = true → S w → S w') → T w') :
    ∀ (fuel : Nat) (listed : Array Bool) (a : Act) (w : World), Closed ops listed →
      (∀ j oj, ops[j]? = some oj → j ≠ i → listed.getD j true = false → (∀ e ∈ oj.after, Region.binds .any e = true → e.on ≠ i) → oi.apart ops oj = true) →
      i ∈ Region.ready .any ops listed → YieldsIf P ops T oi v a → T w →
      AnyH P ops Q S keep fuel (listed.setIfInBounds i true) (a.put oi.dst v) w → AnyH P ops Q S keep (fuel + 1) listed a w := by
  intro fuel
  induction fuel with
  | zero =>
    intro listed a w _ _ hr hy hw H
    refine ⟨fun h => (by rw [h] at hr; cases hr), fun j hj => ?_⟩
    by_cases hji : j = i
    · subst hji; exact hy.wpOp hi hw ⟨fun _ h => h, H⟩
    · have := ready_mono hj hji
      rw [H.1] at this
      cases this
  | succ fuel ih =>
    intro listed a w hcl hfree hr hy hw H
    refine ⟨fun h => (by rw [h] at hr; cases hr), fun j hj => ?_⟩
    by_cases hji : j = i
    · subst hji; exact hy.wpOp hi hw ⟨fun _ h => h, H⟩
    · have h1 := H.2 j (ready_mono hj hji)
      obtain ⟨hjun, oj, hoj, hall⟩ := mem_ready.1 hj
      have hnot : ∀ e ∈ oj.after, Region.binds .any e = true → e.on ≠ i := fun e he hb heq => by
        have h1 := hall e he hb
        have h0 := (mem_ready.1 hr).1
        rw [heq] at h1
        rcases Nat.lt_or_ge i listed.size with h' | h'
        · simp [h'] at h0 h1; rw [h0] at h1; cases h1
        · simp [Array.getElem?_eq_none h'] at h1
      have hedge : reach ops 3 j i = false := no_reach hcl (mem_ready.1 hr).1 3 j fun d hd => by
        unfold depsOf at hd
        rw [hoj] at hd
        simp only [Option.map_some, Option.getD_some] at hd
        obtain ⟨e, he, rfl⟩ := List.mem_map.1 hd
        obtain ⟨he, hb⟩ := List.mem_filter.1 he
        exact hall e (by simpa using he) hb
      have h2 := wpOp_putIf hoj (hfree j oj hoj hji hjun hnot) (fun cs b => hsel i oi cs b hi) (fun cs b => hsel j oj cs b hoj) hQ hy h1
      have hfree' : ∀ k ok, ops[k]? = some ok → k ≠ i → (listed.setIfInBounds j true).getD k true = false →
          (∀ e ∈ ok.after, Region.binds .any e = true → e.on ≠ i) → oi.apart ops ok = true := fun k ok hk hki hun hno => by
        refine hfree k ok hk hki ?_ hno
        by_cases hjk : j = k
        · subst hjk; exact hjun
        · rw [getD_set_ne true hjk] at hun; exact hun
      refine wpOp_mono (fun a' w' h3 => ⟨h3.2.1, ih (listed.setIfInBounds j true) a' w' (hcl.set hj) hfree' (ready_mono hr (Ne.symm hji)) h3.1 (hT j hji hedge w w' hw h3.2.1) ?_⟩) h2
      rw [Array.setIfInBounds_comm _ _ hji]
      exact h3.2.2
end

/-- What an operation yields, carried out or not. -/
def Yld (P : Program) (n : Nat) (ops : Array Oper) (T : World → Prop) (o : Oper) (v : Value) (e : Env) : Prop := YieldsIf P ops T o v (act n e)
/-- One operation, carried out or not. -/
def Op1 (P : Program) (n : Nat) (ops : Array Oper) (Q : Post) (o : Oper) (K : Env → World → Prop) (e : Env) (w : World) : Prop :=
  if Region.wanted o (yielded ops (act n e).tmps) then o.wp P (act n e) w (fun a' w' => ∃ e', a' = act n e' ∧ K e' w') (lift n Q) else K (putd e o.dst undef) w

def D (P : Program) (n : Nat) (ops : Array Oper) (Q : Post) (S : World → Prop) (need : List Nat) : Plan → Env → World → Prop
  | .done, e, w => Q .normal e w
  | .take i p, e, w => ∃ o v, ops[i]? = some o ∧ Yld P n ops (fun _ => True) o v e ∧ D P n ops Q S need p (putd e o.dst v) w
  | .takeS i p, e, w => S w ∧ ∃ o v, ops[i]? = some o ∧ Yld P n ops S o v e ∧ D P n ops Q S need p (putd e o.dst v) w
  | .solo i p, e, w => ∃ o, ops[i]? = some o ∧ Op1 P n ops Q o (fun e' w' => (keepB ops need i = true → S w → S w') ∧ D P n ops Q S need p e' w') e w
  | .two i j p q, e, w => (∃ o, ops[i]? = some o ∧ Op1 P n ops Q o (fun e' w' => (keepB ops need i = true → S w → S w') ∧ D P n ops Q S need p e' w') e w) ∧
      (∃ o, ops[j]? = some o ∧ Op1 P n ops Q o (fun e' w' => (keepB ops need j = true → S w → S w') ∧ D P n ops Q S need q e' w') e w)
  | .alt i p q, e, w => (∃ o, ops[i]? = some o ∧ Op1 P n ops Q o (fun e' w' => (keepB ops need i = true → S w → S w') ∧ D P n ops Q S need p e' w') e w) ∧ D P n ops Q S need q e w

def planOkR (ops : Array Oper) (need : List Nat) : Nat → Plan → Array Bool → Option (List Nat) → Bool
  | 0, .done, listed, none => (Region.ready .any ops listed).isEmpty
  | f + 1, .take i p, listed, none => (Region.ready .any ops listed).contains i && Region.free .any ops listed i && planOkR ops need f p (listed.setIfInBounds i true) none
  | f + 1, .takeS i p, listed, none => (Region.ready .any ops listed).contains i && Region.free .any ops listed i && need.contains i && planOkR ops need f p (listed.setIfInBounds i true) none
  | f + 1, .solo i p, listed, rs => rs.getD (Region.ready .any ops listed) == [i] && planOkR ops need f p (listed.setIfInBounds i true) none
  | f + 1, .two i j p q, listed, rs => rs.getD (Region.ready .any ops listed) == [i, j] && planOkR ops need f p (listed.setIfInBounds i true) none && planOkR ops need f q (listed.setIfInBounds j true) none
  | f + 1, .alt i p q, listed, rs => rs.getD (Region.ready .any ops listed) == i :: (rs.getD (Region.ready .any ops listed)).tail && planOkR ops need f p (listed.setIfInBounds i true) none && planOkR ops need (f + 1) q listed (some (rs.getD (Region.ready .any ops listed)).tail)
  | _, _, _, _ => false
def planOk (ops : Array Oper) (need : List Nat) (f : Nat) (p : Plan) (listed : Array Bool) : Bool := planOkR ops need f p listed none

def NoPan (Q : Post) : Prop := ∀ c e w, ¬ Q (.panic c) e w
theorem NoPan.thn {K : Env → World → Prop} {Q : Post} (h : NoPan Q) : NoPan (thn K Q) := fun c e w hq => h c e w hq
theorem NoPan.blk {id : Nat} {Q : Post} (h : NoPan Q) : NoPan (inBlk id Q) := fun c e w hq => h c e w hq
theorem NoPan.endS {σ : Type} {S : σ → List (Nat × Value)} {I : σ → World → Prop} : NoPan (endS S I) := fun _ _ _ hq => hq
theorem NoPan.body {n : Nat} {rs : List Tmp} {R : Value → World → Prop} : NoPan (body n rs R) := fun _ _ _ hq => hq

section
variable {P : Program} {n : Nat} {ops : Array Oper} {Q : Post} {S : World → Prop} {need : List Nat} {e : Env} {w : World}

theorem Op1.wpOp {i : Nat} {o : Oper} (hi : ops[i]? = some o) {K : Env → World → Prop} {K' : Act → World → Prop} (h : Op1 P n ops Q o K e w) (hK : ∀ e w, K e w → K' (act n e) w) : Go.wpOp P ops (lift n Q) i K' (act n e) w := by
  unfold Go.wpOp
  rw [hi]
  unfold Op1 at h
  simp only
  split
  · rename_i hw
    rw [if_pos hw] at h
    exact .inl (Oper.wp_mono (fun a w ⟨e', he, hk⟩ => by subst he; exact hK e' w hk) h)
  · rename_i hw
    rw [if_neg hw] at h
    rw [put_act]; exact hK _ _ h

theorem D.chain (f : Nat) (ih : ∀ (p : Plan) (listed : Array Bool) (e : Env) (w : World), Closed ops listed → planOkR ops need f p listed none = true → D P n ops Q S need p e w → AnyH P ops (lift n Q) S (keepB ops need) f listed (act n e) w)
    (listed : Array Bool) (e : Env) (w : World) (hcl : Closed ops listed) : ∀ (p : Plan) (rs : List Nat), (∀ k ∈ rs, k ∈ Region.ready .any ops listed) → planOkR ops need (f + 1) p listed (some rs) = true → D P n ops Q S need p e w →
    ∀ k ∈ rs, Go.wpOp P ops (lift n Q) k (fun a' w' => (keepB ops need k = true → S w → S w') ∧ AnyH P ops (lift n Q) S (keepB ops need) f (listed.setIfInBounds k true) a' w') (act n e) w := by
  intro p
  induction p with
  | done => intro rs _ ho _; simp [planOkR] at ho
  | take i p _ => intro rs _ ho _; simp [planOkR] at ho
  | takeS i p _ => intro rs _ ho _; simp [planOkR] at ho
  | solo i p _ =>
    intro rs hsub ho h k hk
    simp only [planOkR, Option.getD_some, Bool.and_eq_true, beq_iff_eq] at ho
    obtain ⟨rfl, ho⟩ := ho
    obtain ⟨o, hi, h1⟩ := h
    have : k = i := by simpa using hk
    subst this
    exact h1.wpOp hi fun e' w' ⟨h2, h3⟩ => ⟨h2, ih _ _ _ _ (hcl.set (hsub k hk)) ho h3⟩
  | two i j p q _ _ =>
    intro rs hsub ho h k hk
    simp only [planOkR, Option.getD_some, Bool.and_eq_true, beq_iff_eq] at ho
    obtain ⟨⟨rfl, ho1⟩, ho2⟩ := ho
    obtain ⟨⟨o1, hi1, h1⟩, ⟨o2, hi2, h2⟩⟩ := h
    have hk' : k = i ∨ k = j := by simpa using hk
    rcases hk' with rfl | rfl
    · exact h1.wpOp hi1 fun e' w' ⟨h2, h3⟩ => ⟨h2, ih _ _ _ _ (hcl.set (hsub k hk)) ho1 h3⟩
    · exact h2.wpOp hi2 fun e' w' ⟨h2, h3⟩ => ⟨h2, ih _ _ _ _ (hcl.set (hsub k hk)) ho2 h3⟩
  | alt i p q _ ihq =>
    intro rs hsub ho h k hk
    simp only [planOkR, Option.getD_some, Bool.and_eq_true, beq_iff_eq] at ho
    obtain ⟨⟨hrs, ho1⟩, ho2⟩ := ho
    obtain ⟨⟨o1, hi1, h1⟩, h2⟩ := h
    rw [hrs] at hk
    rcases List.mem_cons.1 hk with rfl | hk
    · exact h1.wpOp hi1 fun e' w' ⟨h2, h3⟩ => ⟨h2, ih _ _ _ _ (hcl.set (hsub k (by rw [hrs]; exact List.mem_cons_self))) ho1 h3⟩
    · exact ihq rs.tail (fun k hk => hsub k (List.mem_of_mem_tail hk)) ho2 h2 k hk
theorem D.sound (hs : Region.noSelect ops = true) (hp : NoPan Q) : ∀ (f : Nat) (p : Plan) (listed : Array Bool) (e : Env) (w : World), Closed ops listed → planOkR ops need f p listed none = true → D P n ops Q S need p e w →
    AnyH P ops (lift n Q) S (keepB ops need) f listed (act n e) w := by
  have hpan : ∀ (d : Option Tmp) (v : Value) c a w, lift n Q (.panic c) (a.put d v) w → lift n Q (.panic c) a w := fun d v c a w ⟨e, _, hq⟩ => (hp c e w hq).elim
  intro f
  induction f with
  | zero =>
    intro p listed e w _ ho h
    cases p with
    | done => exact ⟨by simpa [planOkR] using ho, e, rfl, h⟩
    | _ => simp [planOkR] at ho
  | succ f ih =>
    intro p listed e w hcl ho h
    cases p with
    | done => simp [planOkR] at ho
    | take i p =>
      simp only [planOkR, Bool.and_eq_true, List.contains_iff_mem] at ho
      obtain ⟨⟨hr, hf⟩, ho⟩ := ho
      obtain ⟨o, v, hi, hy, hd⟩ := h
      refine AnyH.first hi (Region.noSelect_spec hs) (hpan _ _) (fun _ _ _ _ _ _ _ => trivial) f listed _ w hcl (Region.free_spec hi hf) hr hy trivial ?_
      rw [put_act]; exact ih _ _ _ _ (hcl.set hr) ho hd
    | takeS i p =>
      simp only [planOkR, Bool.and_eq_true, List.contains_iff_mem] at ho
      obtain ⟨⟨⟨hr, hf⟩, hn⟩, ho⟩ := ho
      obtain ⟨hS, o, v, hi, hy, hd⟩ := h
      refine AnyH.first hi (Region.noSelect_spec hs) (hpan _ _) (fun j hji hedge w w' hw hk => hk ?_ hw) f listed _ w hcl (Region.free_spec hi hf) hr hy hS ?_
      · unfold keepB
        rw [List.any_eq_true]
        exact ⟨i, hn, by simp [hedge, Ne.symm hji]⟩
      · rw [put_act]; exact ih _ _ _ _ (hcl.set hr) ho hd
    | solo i p =>
      have ho' : planOkR ops need (f + 1) (.solo i p) listed (some (Region.ready .any ops listed)) = true := ho
      have hc := D.chain f ih listed e w hcl (.solo i p) _ (fun _ hk => hk) ho' h
      refine ⟨fun h0 => ?_, hc⟩
      simp [planOkR, h0] at ho
    | two i j p q =>
      have ho' : planOkR ops need (f + 1) (.two i j p q) listed (some (Region.ready .any ops listed)) = true := ho
      have hc := D.chain f ih listed e w hcl (.two i j p q) _ (fun _ hk => hk) ho' h
      refine ⟨fun h0 => ?_, hc⟩
      simp [planOkR, h0] at ho
    | alt i p q =>
      have ho' : planOkR ops need (f + 1) (.alt i p q) listed (some (Region.ready .any ops listed)) = true := ho
      have hc := D.chain f ih listed e w hcl (.alt i p q) _ (fun _ hk => hk) ho' h
      refine ⟨fun h0 => ?_, hc⟩
      simp [planOkR, h0] at ho

/-- A program whose orders are open. -/
class Mixed (P : Program) : Prop where
  eq : P.follows .mixedOrders = true

theorem C.drawn [hm : Mixed P] {id : Nat} {l : List Oper} (S : World → Prop) (need : List Nat) (p : Plan) (hs : (Region.noSelect l.toArray && planOk l.toArray need l.length p (Array.replicate l.length false)) = true) (hp : NoPan Q)
    (h : D P n l.toArray Q S need p e { w with drawn := w.drawn + 1 }) : C P n (.region id l.toArray true) Q e w := by
  simp only [Bool.and_eq_true] at hs
  unfold C
  have h1 := D.sound hs.1 hp _ _ _ _ _ (Closed.nil _) hs.2 h
  refine wp_region_any hm.eq (AnyH.any (S := S) (keep := keepB l.toArray need) _ _ _ _ ?_)
  simpa using h1

/-! ### the plan's steps -/
variable {p q : Plan} {i : Nat} {dst : Option Tmp} {op : Op} {ty : TypeId} {pos : String} {after : Array Edge} {o : Oper}

theorem D.done (h : Q .normal e w) : D P n ops Q S need .done e w := h
/-- The next operation, laid open. -/
def DT (P : Program) (n : Nat) (ops : Array Oper) (Q : Post) (S : World → Prop) (need : List Nat) (o : Oper) (p : Plan) (e : Env) (w : World) : Prop := ∃ v, Yld P n ops (fun _ => True) o v e ∧ D P n ops Q S need p (putd e o.dst v) w
def DS (P : Program) (n : Nat) (ops : Array Oper) (Q : Post) (S : World → Prop) (need : List Nat) (o : Oper) (p : Plan) (e : Env) (w : World) : Prop := S w ∧ ∃ v, Yld P n ops S o v e ∧ D P n ops Q S need p (putd e o.dst v) w
def DW (P : Program) (n : Nat) (ops : Array Oper) (Q : Post) (S : World → Prop) (need : List Nat) (o : Oper) (keep : Bool) (p : Plan) (e : Env) (w : World) : Prop := Op1 P n ops Q o (fun e' w' => (keep = true → S w → S w') ∧ D P n ops Q S need p e' w') e w
theorem D.take (ho : ops[i]? = some o) (h : DT P n ops Q S need o p e w) : D P n ops Q S need (.take i p) e w := let ⟨v, h1, h2⟩ := h; ⟨o, v, ho, h1, h2⟩
theorem D.takeS (ho : ops[i]? = some o) (h : DS P n ops Q S need o p e w) : D P n ops Q S need (.takeS i p) e w := let ⟨hS, v, h1, h2⟩ := h; ⟨hS, o, v, ho, h1, h2⟩
theorem D.solo {k : Bool} (ho : ops[i]? = some o) (hk : keepB ops need i = k) (h : DW P n ops Q S need o k p e w) : D P n ops Q S need (.solo i p) e w := by subst hk; exact ⟨o, ho, h⟩
theorem D.two {j : Nat} {o' : Oper} {k k' : Bool} (ho : ops[i]? = some o) (hk : keepB ops need i = k) (ho' : ops[j]? = some o') (hk' : keepB ops need j = k') (h : DW P n ops Q S need o k p e w) (h' : DW P n ops Q S need o' k' q e w) : D P n ops Q S need (.two i j p q) e w := by
  subst hk; subst hk'; exact ⟨⟨o, ho, h⟩, ⟨o', ho', h'⟩⟩

theorem D.alt {k : Bool} (ho : ops[i]? = some o) (hk : keepB ops need i = k) (h : DW P n ops Q S need o k p e w) (h' : D P n ops Q S need q e w) : D P n ops Q S need (.alt i p q) e w := by
  subst hk; exact ⟨⟨o, ho, h⟩, h'⟩

theorem DT.val {v : Value} (hv : ∀ w, Val P (ev n e) op ty w v) (h : D P n ops Q S need p (putd e dst v) w) : DT P n ops Q S need ⟨dst, op, ty, pos, after, none⟩ p e w :=
  ⟨v, .inl ⟨rfl, fun w _ => by rw [eval_act]; exact (hv w).run _ _ _ _⟩, h⟩
theorem DS.val {v : Value} (hS : S w) (hv : ∀ w, S w → Val P (ev n e) op ty w v) (h : D P n ops Q S need p (putd e dst v) w) : DS P n ops Q S need ⟨dst, op, ty, pos, after, none⟩ p e w :=
  ⟨hS, v, .inl ⟨rfl, fun w hw => by rw [eval_act]; exact (hv w hw).run _ _ _ _⟩, h⟩
theorem DT.gyes {j t : Nat} {b c : Bool} (hj : (ops[j]?).bind (·.dst) = some t) (ht : ev n e (.tmp t) = .bool c) (hc : c = b) (h : DT P n ops Q S need ⟨dst, op, ty, pos, after, none⟩ p e w) : DT P n ops Q S need ⟨dst, op, ty, pos, after, some (j, b)⟩ p e w := by
  obtain ⟨v, h1 | h1, h2⟩ := h
  · exact ⟨v, .inl ⟨by rw [wanted_act (n := n) (e := e) rfl hj ht, hc]; simp, h1.2⟩, h2⟩
  · exact absurd h1.1 (by simp [Region.wanted])
theorem DS.gyes {j t : Nat} {b c : Bool} (hj : (ops[j]?).bind (·.dst) = some t) (ht : ev n e (.tmp t) = .bool c) (hc : c = b) (h : DS P n ops Q S need ⟨dst, op, ty, pos, after, none⟩ p e w) : DS P n ops Q S need ⟨dst, op, ty, pos, after, some (j, b)⟩ p e w := by
  obtain ⟨hS, v, h1 | h1, h2⟩ := h
  · exact ⟨hS, v, .inl ⟨by rw [wanted_act (n := n) (e := e) rfl hj ht, hc]; simp, h1.2⟩, h2⟩
  · exact absurd h1.1 (by simp [Region.wanted])
theorem DT.gno {j t : Nat} {b c : Bool} (hj : (ops[j]?).bind (·.dst) = some t) (ht : ev n e (.tmp t) = .bool c) (hc : c = !b) (h : D P n ops Q S need p (putd e dst undef) w) : DT P n ops Q S need ⟨dst, op, ty, pos, after, some (j, b)⟩ p e w :=
  ⟨undef, .inr ⟨by rw [wanted_act (n := n) (e := e) rfl hj ht, hc]; simp, rfl⟩, h⟩
theorem DS.gno {j t : Nat} {b c : Bool} (hS : S w) (hj : (ops[j]?).bind (·.dst) = some t) (ht : ev n e (.tmp t) = .bool c) (hc : c = !b) (h : D P n ops Q S need p (putd e dst undef) w) : DS P n ops Q S need ⟨dst, op, ty, pos, after, some (j, b)⟩ p e w :=
  ⟨hS, undef, .inr ⟨by rw [wanted_act (n := n) (e := e) rfl hj ht, hc]; simp, rfl⟩, h⟩

/-- One operation by what it does. -/
theorem Op1.plain {o : Oper} {K : Env → World → Prop} (hw : Region.wanted o (yielded ops (act n e).tmps) = true) (h : o.wp P (act n e) w (fun a' w' => ∃ e', a' = act n e' ∧ K e' w') (lift n Q)) : Op1 P n ops Q o K e w := by
  unfold Op1; rw [if_pos hw]; exact h
theorem Op1.vals {v : Value} {w' : World} {K : Env → World → Prop} {g : Option (Nat × Bool)} (hw : Region.wanted ⟨dst, op, ty, pos, after, g⟩ (yielded ops (act n e).tmps) = true) (hv : Vals P (ev n e) op ty w v w') (h : K (putd e dst v) w') : Op1 P n ops Q ⟨dst, op, ty, pos, after, g⟩ K e w := by
  refine Op1.plain hw ?_
  unfold Oper.wp
  rw [eval_act, hv.run]
  exact ⟨putd e dst v, put_act _ _ _ _, h⟩
theorem Op1.skips {w' : World} {K : Env → World → Prop} {g : Option (Nat × Bool)} (hw : Region.wanted ⟨dst, op, ty, pos, after, g⟩ (yielded ops (act n e).tmps) = true) (hv : Skips P (ev n e) op ty w w') (h : K (putd e dst undef) w') : Op1 P n ops Q ⟨dst, op, ty, pos, after, g⟩ K e w := by
  refine Op1.plain hw ?_
  unfold Oper.wp
  rw [eval_act, hv.run]
  exact ⟨putd e dst undef, put_act _ _ _ _, h⟩
theorem Op1.call {K : Env → World → Prop} {g : Option (Nat × Bool)} {f : FuncId} [FuncOk P f] {x : Operand} {args : Array Operand} {ats : Array TypeId} {first captured : Array Value} {R : Value → World → Prop}
    (hw : Region.wanted ⟨dst, .call { callee := .value x, args := args, argTypes := ats }, ty, pos, after, g⟩ (yielded ops (act n e).tmps) = true)
    (hx : ev n e x = .func (.func f) first captured) (hc : Call P f (first.toList ++ args.toList.map (ev n e) ++ captured.toList).toArray w R) (h : ∀ v w', R v w' → K (putd e dst v) w') :
    Op1 P n ops Q ⟨dst, .call { callee := .value x, args := args, argTypes := ats }, ty, pos, after, g⟩ K e w := by
  refine Op1.plain hw ?_
  unfold Oper.wp
  rw [eval_act, run_call hx, args_list]
  refine Calls.mono (Call.run hc) ?_
  rintro ex w' ⟨v, rfl, hR⟩
  exact ⟨putd e dst v, put_act _ _ _ _, h v w' hR⟩
theorem Op1.no {K : Env → World → Prop} {o : Oper} (hw : Region.wanted o (yielded ops (act n e).tmps) = false) (h : K (putd e o.dst undef) w) : Op1 P n ops Q o K e w := by
  unfold Op1; rw [if_neg (by rw [hw]; simp)]; exact h

variable {k : Bool}
theorem DW.vals {v : Value} {w' : World} (hv : Vals P (ev n e) op ty w v w') (hk : k = true → S w → S w') (h : D P n ops Q S need p (putd e dst v) w') : DW P n ops Q S need ⟨dst, op, ty, pos, after, none⟩ k p e w := Op1.vals rfl hv ⟨hk, h⟩
theorem DW.val {v : Value} (hv : Val P (ev n e) op ty w v) (h : D P n ops Q S need p (putd e dst v) w) : DW P n ops Q S need ⟨dst, op, ty, pos, after, none⟩ k p e w := Op1.vals rfl ⟨hv.run⟩ ⟨fun _ h => h, h⟩
theorem DW.skips {w' : World} (hv : Skips P (ev n e) op ty w w') (hk : k = true → S w → S w') (h : D P n ops Q S need p (putd e dst undef) w') : DW P n ops Q S need ⟨dst, op, ty, pos, after, none⟩ k p e w := Op1.skips rfl hv ⟨hk, h⟩
theorem DW.call {f : FuncId} [FuncOk P f] {x : Operand} {args : Array Operand} {ats : Array TypeId} {first captured : Array Value} {R : Value → World → Prop}
    (hx : ev n e x = .func (.func f) first captured) (hc : Call P f (first.toList ++ args.toList.map (ev n e) ++ captured.toList).toArray w R) (h : ∀ v w', R v w' → (k = true → S w → S w') ∧ D P n ops Q S need p (putd e dst v) w') :
    DW P n ops Q S need ⟨dst, .call { callee := .value x, args := args, argTypes := ats }, ty, pos, after, none⟩ k p e w := Op1.call rfl hx hc h
theorem DW.gyes {j t : Nat} {b c : Bool} (hj : (ops[j]?).bind (·.dst) = some t) (ht : ev n e (.tmp t) = .bool c) (hc : c = b) (h : DW P n ops Q S need ⟨dst, op, ty, pos, after, none⟩ k p e w) : DW P n ops Q S need ⟨dst, op, ty, pos, after, some (j, b)⟩ k p e w := by
  unfold DW Op1 at *
  rw [if_pos (by rfl)] at h
  rw [if_pos (by rw [wanted_act (n := n) (e := e) rfl hj ht, hc]; simp)]
  exact h
theorem DW.gno {j t : Nat} {b c : Bool} (hj : (ops[j]?).bind (·.dst) = some t) (ht : ev n e (.tmp t) = .bool c) (hc : c = !b) (h : D P n ops Q S need p (putd e dst undef) w) : DW P n ops Q S need ⟨dst, op, ty, pos, after, some (j, b)⟩ k p e w :=
  Op1.no (by rw [wanted_act (n := n) (e := e) rfl hj ht, hc]; simp) ⟨fun _ h => h, h⟩
end
attribute [irreducible] D DT DS DW


end Go.Proofs.Ytcibdcfdchpnpaa.X
