/- What a call owns: blocks and slices of its own, apart from each other, above what was there; how operations turn them. Nothing is assumed. -/
import Derived.Test.YtcibdcfdchpnpaaX1
import Derived.Maps.AppendAt
import Derived.Laws.IdiomCopy
import Derived.Lib.FrozenHead
namespace Go.Proofs.Ytcibdcfdchpnpaa.X
open Go Go.RowKit
set_option linter.unusedSimpArgs false
set_option linter.unusedVariables false

/-! ### slices that are read -/
def at_ (v : Value) (j : Nat) : Addr := match v with
  | .slice (some a) _ _ => ⟨a.block, a.off + j, none⟩
  | _ => ⟨0, 0, none⟩
/-- In this world v is a slice of n elements, of esz cells each, whose cells are these. -/
def RdC (w : World) (v : Value) (esz n : Nat) (cs : List Value) : Prop :=
  cs.length = n * esz ∧ ∃ a cap, v = .slice a n cap ∧ n ≤ cap ∧ cap ≤ maxLen ∧ (a = none → n = 0 ∧ cap = 0) ∧ ∀ ad, a = some ad → (0 < cap → ad.spot = none) ∧ ∀ (i : Nat) (u : Value), cs[i]? = some u → w.cell? (at_ v i) = some u
theorem at_block {v : Value} {j k : Nat} (h : v.ownBlock = some k) : (at_ v j).block = k := by
  cases v <;> simp [Value.ownBlock] at h
  rename_i a _ _
  cases a <;> simp [Value.ownBlock] at h
  simp [at_, h]
theorem RdC.congr {w w' : World} {v : Value} {esz n : Nat} {cs : List Value} (h : RdC w v esz n cs) (hw : ∀ k, v.ownBlock = some k → w'.heap[k]? = w.heap[k]?) : RdC w' v esz n cs := by
  obtain ⟨hl, a, cap, rfl, h1, h2, h3, h4⟩ := h
  refine ⟨hl, a, cap, rfl, h1, h2, h3, fun ad had => ⟨(h4 ad had).1, fun i u hu => ?_⟩⟩
  have := (h4 ad had).2 i u hu
  subst had
  have hb : (at_ (.slice (some ad) n cap) i).block = ad.block := at_block rfl
  exact (World.cell?_of_block (w := w) (w' := w') (by rw [hb]; exact hw _ rfl)).trans this

/-! ### slices of one's own -/
/-- A slice of the call's own, from its array's head on; what may not be written, if anything, lies behind the array. -/
def OwnsR (w : World) (base : Nat) (e : TypeId) (size : Nat) (v : Value) (n : Nat) (xs : List Value) : Prop :=
  xs.length = n * size ∧
  ((v = .slice none 0 0 ∧ n = 0) ∨
   ∃ g cap cur fz, v = .slice (some ⟨g, 0, none⟩) n cap ∧ base ≤ g ∧ w.heap[g]? = some (.cells cur e fz) ∧ (fz = (0, 0) ∨ cur.size ≤ fz.1) ∧ n ≤ cap ∧ cap ≤ maxLen ∧ cur.size = cap * size ∧ cur.toList.take (n * size) = xs)
section
variable {w : World} {base : Nat} {e : TypeId} {size n : Nat} {v : Value} {xs : List Value}
theorem OwnsR.of (h : w.ownsRow base e size v n xs) : OwnsR w base e size v n xs := by
  obtain ⟨h1, h2⟩ := h
  refine ⟨h1, ?_⟩
  rcases h2 with h2 | ⟨g, cap, cur, a, b, c, d⟩
  · exact .inl h2
  · exact .inr ⟨g, cap, cur, (0, 0), a, b, c, .inl rfl, d⟩
theorem OwnsR.lt (h : OwnsR w base e size v n xs) : ∀ k, v.ownBlock = some k → base ≤ k ∧ k < w.heap.size := by
  intro k hk
  rcases h.2 with ⟨rfl, _⟩ | ⟨g, cap, cur, fz, rfl, hb, hg, _⟩
  · simp [Value.ownBlock] at hk
  · simp only [Value.ownBlock, Option.some.injEq] at hk; subst hk
    exact ⟨hb, (Array.getElem?_eq_some_iff.1 hg).1⟩
theorem frozen_fz {g j : Nat} {cur : Array Value} {t : TypeId} {fz : Nat × Nat} (hg : w.heap[g]? = some (.cells cur t fz)) (hfz : fz = (0, 0) ∨ cur.size ≤ fz.1) (hj : j < cur.size) : w.frozen? ⟨g, j, none⟩ = false := by
  obtain ⟨lo, hi⟩ := fz
  simp only [World.frozen?, hg, Bool.and_eq_false_iff, decide_eq_false_iff_not]
  rcases hfz with h | h
  · simp only [Prod.mk.injEq] at h; right; omega
  · left; simp only at h; omega
theorem OwnsR.cellAt {g cap : Nat} (h : OwnsR w base e size (.slice (some ⟨g, 0, none⟩) n cap) n xs) (j : Nat) (hj : j < n * size) : w.cell? ⟨g, j, none⟩ = xs[j]? := by
  rcases h.2 with ⟨h', _⟩ | ⟨g', cap', cur, fz, h', _, hg, _, _, _, _, htake⟩
  · simp at h'
  · simp only [Value.slice.injEq, Option.some.injEq, Addr.mk.injEq, and_true, true_and] at h'
    obtain ⟨rfl, rfl⟩ := h'
    rw [cell_of_row w g j cur e fz hg, ← htake, List.getElem?_take, if_pos hj]
    simp
theorem OwnsR.frozenAt {g cap : Nat} (h : OwnsR w base e size (.slice (some ⟨g, 0, none⟩) n cap) n xs) (j : Nat) (hj : j < n * size) : w.frozen? ⟨g, j, none⟩ = false := by
  rcases h.2 with ⟨h', _⟩ | ⟨g', cap', cur, fz, h', _, hg, hfz, hnc, _, hcs, _⟩
  · simp at h'
  · simp only [Value.slice.injEq, Option.some.injEq, Addr.mk.injEq, and_true, true_and] at h'
    obtain ⟨rfl, rfl⟩ := h'
    have : n * size ≤ cap * size := Nat.mul_le_mul_right _ hnc
    exact frozen_fz hg hfz (by omega)
theorem OwnsR.stored {g cap : Nat} (h : OwnsR w base e size (.slice (some ⟨g, 0, none⟩) n cap) n xs) (j : Nat) (u : Value) :
    OwnsR (w.setCell ⟨g, j, none⟩ u) base e size (.slice (some ⟨g, 0, none⟩) n cap) n (xs.set j u) := by
  rcases h.2 with ⟨h', _⟩ | ⟨g', cap', cur, fz, h', hb, hg, hfz, hnc, hcm, hcs, htake⟩
  · simp at h'
  · simp only [Value.slice.injEq, Option.some.injEq, Addr.mk.injEq, and_true, true_and] at h'
    obtain ⟨rfl, rfl⟩ := h'
    refine ⟨by simpa using h.1, .inr ⟨g, cap, cur.setIfInBounds j u, fz, rfl, hb, ?_, by simpa using hfz, hnc, hcm, by simpa using hcs, ?_⟩⟩
    · rw [setCell_eq_setRow w g j cur e fz u hg]; exact setRow_heap w g cur _ e fz hg
    · rw [Array.toList_setIfInBounds, ← htake, List.take_set]
end
theorem storeCells_hi (P : Program) (g o : Nat) (t : TypeId) (fz : Nat × Nat) : ∀ (vs : List Value) (i : Nat) (cur : Array Value) (w : World), w.heap[g]? = some (.cells cur t fz) → (fz = (0, 0) ∨ cur.size ≤ fz.1) → o + i + vs.length ≤ cur.size → (∀ v ∈ vs, v.oneCell' = true) →
    (storeCells ⟨g, o, none⟩ vs i).run P w = .ok () (w.setRow g (cur.toList.take (o + i) ++ vs ++ cur.toList.drop (o + i + vs.length)).toArray)
  | [], i, cur, w, hg, _, _, _ => by
    simp only [storeCells, List.append_nil, List.length_nil, Nat.add_zero, List.take_append_drop, Array.toArray_toList]
    rw [setRow_self w g cur t fz hg]
    rfl
  | v :: rest, i, cur, w, hg, hfz, hl, h1 => by
    have hi : o + i < cur.size := by simp at hl; omega
    have hadd : (⟨g, o, none⟩ : Addr).add i = ⟨g, o + i, none⟩ := by unfold Addr.add; split <;> simp_all
    have hcell : w.cell? ⟨g, o + i, none⟩ = some cur[o + i] := by simp [World.cell?, hg, hi]
    have hfro : w.frozen? ⟨g, o + i, none⟩ = false := frozen_fz hg hfz hi
    have hst : (store ((⟨g, o, none⟩ : Addr).add i) v).run P w = .ok () (w.setRow g (cur.setIfInBounds (o + i) v)) := by
      rw [hadd, run_store P w _ v _ (h1 v (by simp)), hcell]
      simp [hfro, setCell_eq_setRow w g (o + i) cur t fz v hg]
    have ih := storeCells_hi P g o t fz rest (i + 1) (cur.setIfInBounds (o + i) v) (w.setRow g (cur.setIfInBounds (o + i) v)) (setRow_heap w g cur _ t _ hg) (by simpa using hfz) (by simp at hl ⊢; omega) (fun x hx => h1 x (by simp [hx]))
    simp only [storeCells, Sem.run_bind, hst, Result.andThen_ok, ih, setRow_setRow]
    congr 3
    have e := list_seg_step cur.toList (o + i) v rest (by simp at hl ⊢; omega)
    simpa [Array.toList_setIfInBounds, Nat.add_assoc] using e
theorem append_room_hi {P : Program} (w : World) (t ty e : TypeId) (i : TypeInfo) (ht : P.underlying t = some (.slice e)) (hi : P.info? e = some i)
    (g sLen sCap : Nat) (cur : Array Value) (fz : Nat × Nat) (hg : w.heap[g]? = some (.cells cur e fz)) (hfz : fz = (0, 0) ∨ cur.size ≤ fz.1)
    (a : Addr) (m c : Nat) (news : List Value) (hl : news.length = m * i.size) (hnews : ∀ j u, news[j]? = some u → w.cell? (a.add j) = some u) (h1 : ∀ u ∈ news, u.oneCell' = true)
    (hroom : sLen + m ≤ sCap) (hfit : sLen * i.size + news.length ≤ cur.size) :
    (Builtin.append_ #[t, t] ty #[.slice (some ⟨g, 0, none⟩) sLen sCap, .slice (some a) m c]).run P w =
      .ok (.slice (some ⟨g, 0, none⟩) (sLen + m) sCap) (w.setRow g (cur.toList.take (sLen * i.size) ++ news ++ cur.toList.drop (sLen * i.size + news.length)).toArray) := by
  have hf := run_firstCells_some (P := P) w i.size m a m c news hl hnews
  have hst := storeCells_hi P g (sLen * i.size) e fz news 0 cur w hg hfz (by simpa using hfit) h1
  simp only [Nat.add_zero] at hst
  simp [Builtin.append_, run_underlying ht, sizeOf, typeInfo, hi, Builtin.lenOf, hroom, hf, Addr.add_lit, hst]
theorem OwnsR.append {P : Program} (w : World) (base : Nat) (t ty e : TypeId) (i : TypeInfo) (z : Value) (size bytes : Nat) (ht : P.underlying t = some (.slice e)) (hi : P.info? e = some i) (hz : i.zero = some z)
    (hsize : i.size = size) (hby : i.bytes = bytes) (hzs : z.cells.size = size) (hsz : 0 < size)
    (v : Value) (n : Nat) (xs : List Value) (hown : OwnsR w base e size v n xs)
    (a : Addr) (m c : Nat) (news : List Value) (hl : news.length = m * size) (hnews : ∀ j u, news[j]? = some u → w.cell? (a.add j) = some u) (h1 : ∀ u ∈ news, u.oneCell' = true)
    (h63 : n + m ≤ maxLen) (hbytes : (n + m) * bytes ≤ 140737488355328) (hbase : base ≤ w.heap.size) :
    ∃ v' w', (Builtin.append_ #[t, t] ty #[v, .slice (some a) m c]).run P w = .ok v' w' ∧ OwnsR w' base e size v' (n + m) (xs ++ news) ∧ w.grownBy w' v.ownBlock ∧ (v'.ownBlock = v.ownBlock ∨ v'.ownBlock = some w.heap.size) := by
  have elder : w.ownsRow base e size v n xs → ∃ v' w', (Builtin.append_ #[t, t] ty #[v, .slice (some a) m c]).run P w = .ok v' w' ∧ OwnsR w' base e size v' (n + m) (xs ++ news) ∧ w.grownBy w' v.ownBlock ∧ (v'.ownBlock = v.ownBlock ∨ v'.ownBlock = some w.heap.size) := fun h => by
    obtain ⟨v', w', r1, r2, r3, _, r5⟩ := run_append_own_at (P := P) w base t ty e i z size bytes ht hi hz hsize hby hzs hsz v n xs h a m c news hl hnews h1 h63 hbytes hbase
    exact ⟨v', w', r1, OwnsR.of r2, r3, r5⟩
  rcases hown.2 with h0 | ⟨g, cap, cur, fz, rfl, hbg, hg, hfz, hnc, hcm, hcs, htake⟩
  · exact elder ⟨hown.1, .inl h0⟩
  subst hsize
  subst hby
  have hsmall : n + m ≤ 9223372036854775807 := by simp only [maxLen] at h63; omega
  have hlen : (xs ++ news).length = (n + m) * i.size := by rw [List.length_append, hown.1, hl, Nat.add_mul]
  by_cases hroom : n + m ≤ cap
  · have hfit : n * i.size + news.length ≤ cur.size := by rw [hl, hcs, ← Nat.add_mul]; exact Nat.mul_le_mul_right _ hroom
    have hr := append_room_hi (P := P) w t ty e i ht hi g n cap cur fz hg hfz a m c news hl hnews h1 hroom hfit
    have hsz' : (cur.toList.take (n * i.size) ++ news ++ cur.toList.drop (n * i.size + news.length)).toArray.size = cur.size := by
      simp only [List.size_toArray, List.length_append, List.length_take, List.length_drop, Array.length_toList]
      omega
    refine ⟨_, _, hr, ⟨hlen, .inr ⟨g, cap, _, fz, rfl, hbg, setRow_heap w g cur _ e _ hg, by rw [hsz']; exact hfz, hroom, hcm, by rw [hsz', hcs], ?_⟩⟩, ⟨rfl, rfl, rfl, by simp, fun k _ hk => setRow_other w g k _ (fun e => hk (by simp [Value.ownBlock, e]))⟩, Or.inl rfl⟩
    rw [htake, ← hlen]
    exact List.take_left
  · have holds : ∀ j u, xs[j]? = some u → w.cell? ((⟨g, 0, none⟩ : Addr).add j) = some u := fun j u hu => by
      have hj : j < n * i.size := by have := (List.getElem?_eq_some_iff.1 hu).1; rwa [hown.1] at this
      have e1 : (⟨g, 0, none⟩ : Addr).add j = ⟨g, j, none⟩ := by unfold Addr.add; split <;> simp_all
      rw [e1, hown.cellAt (cap := cap) j hj]; exact hu
    have hr := run_append_grow (P := P) w t ty e i z ht hi hz ⟨g, 0, none⟩ n cap xs hown.1 holds a m c news hl hnews (by omega) (by omega) (growslice_fits (by omega) hbytes)
    have hge := grownCap_ge w (n + m) cap e
    have hcm' : grownCap w (n + m) cap e ≤ maxLen := grownCap_le_maxLen w (n + m) cap e h63
    refine ⟨_, _, hr, ⟨hlen, .inr ⟨w.heap.size, _, _, (0, 0), rfl, hbase, heap_alloc_new w.drew _, .inl rfl, hge, hcm', ?_, ?_⟩⟩, ⟨rfl, rfl, rfl, by simp, fun k hk _ => heap_alloc_old w.drew _ hk⟩, Or.inr rfl⟩
    · simp only [Array.size_append, List.size_toArray, size_zeroCells, hzs, hown.1, hl, ← Nat.add_mul]
      congr 1
      omega
    · simp only [Array.toList_append, List.append_assoc]
      rw [← List.append_assoc, ← hlen]
      exact List.take_left

/-- A thing of the call's own: a block of cells; a slice (from its array's head on), nil or not. -/
inductive Res where
  | box (b : Nat) (ty : TypeId) (cs : List Value)
  | row (v : Value) (ty : TypeId) (esz : Nat) (cs : List Value)
  | ro (v : Value) (esz n : Nat) (cs : List Value)
  | obj (b : Nat) (φ : Obj → Prop)
def Res.foot : Res → Option Nat
  | .box b _ _ => some b
  | .row v _ _ _ => v.ownBlock
  | .ro v _ _ _ => v.ownBlock
  | .obj b _ => some b
def Res.holds (B : Nat) (w : World) : Res → Prop
  | .box b ty cs => B ≤ b ∧ w.heap[b]? = some (.cells cs.toArray ty (0, 0))
  | .row v ty esz cs => ∃ n, OwnsR w B ty esz v n cs
  | .ro v esz n cs => RdC w v esz n cs ∧ ∀ k, v.ownBlock = some k → B ≤ k ∧ k < w.heap.size
  | .obj b φ => B ≤ b ∧ ∃ o, w.heap[b]? = some o ∧ φ o
def Apart (r s : Res) : Prop := ∀ k, r.foot = some k → s.foot ≠ some k
theorem Apart.symm {r s : Res} (h : Apart r s) : Apart s r := fun k h1 h2 => h k h2 h1

structure Own (w0 w : World) (L : List Res) : Prop where
  below : Below w0.heap.size w0 w
  holds : ∀ r ∈ L, r.holds w0.heap.size w
  apart : L.Pairwise Apart
/-- The world holds at least these. -/
structure Has (w0 w : World) (L : List Res) : Prop where
  below : Below w0.heap.size w0 w
  holds : ∀ r ∈ L, r.holds w0.heap.size w

theorem Own.has {w0 w : World} {L : List Res} (h : Own w0 w L) : Has w0 w L := ⟨h.below, h.holds⟩
theorem Has.mono {w0 w : World} {L L' : List Res} (h : Has w0 w L) (hs : ∀ r ∈ L', r ∈ L) : Has w0 w L' := ⟨h.below, fun r hr => h.holds r (hs r hr)⟩
theorem Own.perm {w0 w : World} {L L' : List Res} (h : Own w0 w L) (hp : L.Perm L') : Own w0 w L' :=
  ⟨h.below, fun r hr => h.holds r (hp.mem_iff.2 hr), (hp.pairwise_iff (fun h => Apart.symm h)).1 h.apart⟩
theorem Own.sub {w0 w : World} {L L' : List Res} (h : Own w0 w L) (hp : L'.Sublist L) : Own w0 w L' :=
  ⟨h.below, fun r hr => h.holds r (hp.subset hr), h.apart.sublist hp⟩
theorem Own.tail {w0 w : World} {r : Res} {L : List Res} (h : Own w0 w (r :: L)) : Own w0 w L := h.sub (List.sublist_cons_self r L)

theorem Res.foot_ge {B : Nat} {w : World} {r : Res} (h : r.holds B w) {k : Nat} (hk : r.foot = some k) : B ≤ k ∧ k < w.heap.size := by
  cases r with
  | box b ty cs =>
    simp only [Res.foot, Option.some.injEq] at hk; subst hk
    exact ⟨h.1, (Array.getElem?_eq_some_iff.1 h.2).1⟩
  | row v ty esz cs => obtain ⟨n, hn⟩ := h; exact hn.lt k hk
  | ro v esz n cs => exact h.2 k hk
  | obj b φ =>
    simp only [Res.foot, Option.some.injEq] at hk; subst hk
    obtain ⟨h1, o, h2, _⟩ := h
    exact ⟨h1, (Array.getElem?_eq_some_iff.1 h2).1⟩
theorem Res.holds_congr {B : Nat} {w w' : World} {r : Res} (h : r.holds B w) (hs : w.heap.size ≤ w'.heap.size) (hw : ∀ k, r.foot = some k → w'.heap[k]? = w.heap[k]?) : r.holds B w' := by
  cases r with
  | box b ty cs => exact ⟨h.1, by rw [hw b rfl]; exact h.2⟩
  | row v ty esz cs =>
    obtain ⟨n, h1, h2⟩ := h
    refine ⟨n, h1, ?_⟩
    rcases h2 with hn | ⟨g, cap, cur, fz, rfl, hb, hgg, r⟩
    · exact .inl hn
    · exact .inr ⟨g, cap, cur, fz, rfl, hb, by rw [hw g rfl]; exact hgg, r⟩
  | ro v esz n cs => exact ⟨h.1.congr hw, fun k hk => ⟨(h.2 k hk).1, Nat.lt_of_lt_of_le (h.2 k hk).2 hs⟩⟩
  | obj b φ =>
    obtain ⟨h1, o, h2, h3⟩ := h
    exact ⟨h1, o, by rw [hw b rfl]; exact h2, h3⟩

/-- The things A become A'; the others stay. -/
theorem Own.update {w0 w w' : World} {A A' L : List Res} (H : Own w0 w (A ++ L)) (hb : Below w0.heap.size w0 w') (hA : ∀ r ∈ A', r.holds w0.heap.size w') (hp : A'.Pairwise Apart)
    (hf : ∀ r ∈ A', ∀ k, r.foot = some k → (∃ s ∈ A, s.foot = some k) ∨ w.heap.size ≤ k)
    (hs : ∀ k, k < w.heap.size → (∀ s ∈ A, s.foot ≠ some k) → w'.heap[k]? = w.heap[k]?) (hsz : w.heap.size ≤ w'.heap.size := by first | exact Nat.le_refl _ | simp | omega) : Own w0 w' (A' ++ L) := by
  obtain ⟨_, hh, ha⟩ := H
  rw [List.pairwise_append] at ha
  obtain ⟨_, haL, hAL⟩ := ha
  refine ⟨hb, ?_, ?_⟩
  · intro r hr
    rcases List.mem_append.1 hr with hr | hr
    · exact hA r hr
    · have h0 := hh r (List.mem_append.2 (.inr hr))
      refine Res.holds_congr h0 hsz fun k hk => hs k (Res.foot_ge h0 hk).2 fun s hs' he => ?_
      exact hAL s hs' r hr k he hk
  · rw [List.pairwise_append]
    refine ⟨hp, haL, fun r hr s hs' k hk he => ?_⟩
    rcases hf r hr k hk with ⟨t, ht, htk⟩ | hk'
    · exact hAL t ht s hs' k htk he
    · have := (Res.foot_ge (hh s (List.mem_append.2 (.inr hs'))) he).2
      omega

theorem Own.drew {w0 w : World} {L : List Res} (h : Own w0 w L) : Own w0 w.drew L := ⟨h.below.drew, fun r hr => Res.holds_congr (h.holds r hr) (Nat.le_refl _) fun _ _ => rfl, h.apart⟩
theorem Own.drawn {w0 w : World} {L : List Res} (h : Own w0 w L) (d : Nat) : Own w0 { w with drawn := d } L :=
  ⟨⟨h.below.os, h.below.tape, h.below.output, h.below.size, h.below.block⟩, fun r hr => Res.holds_congr (h.holds r hr) (Nat.le_refl _) fun _ _ => rfl, h.apart⟩
theorem Own.nil {w0 : World} : Own w0 w0 [] := ⟨Below.refl _ _, fun _ h => (by cases h), List.Pairwise.nil⟩

/-- A new block. -/
theorem Own.alloc {w0 w : World} {L : List Res} (h : Own w0 w L) (cs : Array Value) (ty : TypeId) : Own w0 (w.alloc (.cells cs ty)) (.box w.heap.size ty cs.toList :: L) := by
  refine Own.update (A := []) (A' := [.box w.heap.size ty cs.toList]) h (h.below.alloc h.below.size _) ?_ (List.pairwise_singleton _ _) ?_ ?_
  · intro r hr
    simp only [List.mem_singleton] at hr; subst hr
    exact ⟨h.below.size, by simpa using heap_alloc_new w _⟩
  · intro r hr k hk
    simp only [List.mem_singleton] at hr; subst hr
    simp only [Res.foot, Option.some.injEq] at hk
    exact .inr (by omega)
  · intro k hk _
    exact Below.heap_alloc w _ k hk

/-- A new row, whole. -/
theorem Own.newRow {w0 w : World} {L : List Res} (h : Own w0 w L) (cs : Array Value) (ty : TypeId) (esz n : Nat) (hn : cs.size = n * esz) (hm : n ≤ maxLen) :
    Own w0 (w.alloc (.cells cs ty)) (.row (.slice (some ⟨w.heap.size, 0, none⟩) n n) ty esz cs.toList :: L) := by
  refine Own.update (A := []) (A' := [.row _ ty esz cs.toList]) h (h.below.alloc h.below.size _) ?_ (List.pairwise_singleton _ _) ?_ ?_
  · intro r hr
    simp only [List.mem_singleton] at hr; subst hr
    exact ⟨n, OwnsR.of (World.ownsRow_lit w cs n h.below.size hm hn)⟩
  · intro r hr k hk
    simp only [List.mem_singleton] at hr; subst hr
    simp only [Res.foot, Value.ownBlock, Option.some.injEq] at hk
    exact .inr (by omega)
  · intro k hk _
    exact Below.heap_alloc w _ k hk
/-- A nil slice is a row of its own. -/
theorem Own.nilRow {w0 w : World} {L : List Res} (h : Own w0 w L) (ty : TypeId) (esz : Nat) : Own w0 w (.row (.slice none 0 0) ty esz [] :: L) := by
  refine Own.update (A := []) (A' := [.row (.slice none 0 0) ty esz []]) h h.below ?_ (List.pairwise_singleton _ _) ?_ (fun _ _ _ => rfl)
  · intro r hr
    simp only [List.mem_singleton] at hr; subst hr
    exact ⟨0, OwnsR.of (World.ownsRow_nil w _ ty esz)⟩
  · intro r hr k hk
    simp only [List.mem_singleton] at hr; subst hr
    simp [Res.foot, Value.ownBlock] at hk

/-- A cell of a block. -/
theorem Has.cell {w0 w : World} {L : List Res} (h : Has w0 w L) {b : Nat} {ty : TypeId} {cs : List Value} (hm : Res.box b ty cs ∈ L) (i : Nat) : w.cell? ⟨b, i, none⟩ = cs[i]? := by
  have h1 := (h.holds _ hm).2
  rw [cell_of_row w b i _ _ _ h1]; simp
theorem Has.frozen {w0 w : World} {L : List Res} (h : Has w0 w L) {b : Nat} {ty : TypeId} {cs : List Value} (hm : Res.box b ty cs ∈ L) (i : Nat) : w.frozen? ⟨b, i, none⟩ = false :=
  frozen_of_row w b i _ _ (h.holds _ hm).2
theorem Own.setBox {w0 w : World} {L : List Res} {b : Nat} {ty : TypeId} {cs : List Value} (h : Own w0 w (.box b ty cs :: L)) (i : Nat) (u : Value) :
    Own w0 (w.setCell ⟨b, i, none⟩ u) (.box b ty (cs.set i u) :: L) := by
  have hh := h.holds _ List.mem_cons_self
  refine Own.update (A := [.box b ty cs]) (A' := [.box b ty (cs.set i u)]) h (h.below.setCell hh.1 _) ?_ (List.pairwise_singleton _ _) ?_ ?_
  · intro r hr
    simp only [List.mem_singleton] at hr; subst hr
    refine ⟨hh.1, ?_⟩
    rw [heap_setCell_same w b i _ _ u hh.2]; simp
  · intro r hr k hk
    simp only [List.mem_singleton] at hr; subst hr
    exact .inl ⟨_, List.mem_singleton.2 rfl, hk⟩
  · intro k _ hk
    exact heap_setCell_other w ⟨b, i, none⟩ k u (fun e => hk _ (List.mem_singleton.2 rfl) (by simp [Res.foot, e]))

/-! ### slices that are read, in what is owned -/
/-- Wherever these things are, it is so. -/
def Rd (w0 : World) (L : List Res) (v : Value) (esz n : Nat) (cs : List Value) : Prop := ∀ w, Has w0 w L → RdC w v esz n cs
theorem Rd.mono {w0 : World} {L L' : List Res} {v : Value} {esz n : Nat} {cs : List Value} (h : Rd w0 L v esz n cs) (hs : ∀ r ∈ L, r ∈ L') : Rd w0 L' v esz n cs := fun w hw => h w (hw.mono hs)

theorem RdC.cell {w : World} {v : Value} {esz n : Nat} {cs : List Value} (h : RdC w v esz n cs) (i : Nat) (u : Value) (hu : cs[i]? = some u) : w.cell? (at_ v i) = some u := by
  obtain ⟨hl, a, cap, rfl, h1, h2, h3, h4⟩ := h
  cases a with
  | none =>
    have := (h3 rfl).1
    subst this
    have : cs = [] := List.eq_nil_of_length_eq_zero (by simpa using hl)
    subst this; cases hu
  | some ad => exact (h4 ad rfl).2 i u hu
theorem RdC.len_le {w : World} {v : Value} {esz n : Nat} {cs : List Value} (h : RdC w v esz n cs) : n ≤ maxLen := by
  obtain ⟨hl, a, cap, rfl, h1, h2, h3, h4⟩ := h; omega

theorem RdC.of_row {w : World} {B : Nat} {ty : TypeId} {esz n : Nat} {v : Value} {cs : List Value} (h : OwnsR w B ty esz v n cs) : RdC w v esz n cs := by
  refine ⟨h.1, ?_⟩
  rcases h.2 with ⟨rfl, rfl⟩ | ⟨g, cap, cur, fz, rfl, hb, hg, hfz, hnc, hcm, hcs, htake⟩
  · exact ⟨none, 0, rfl, Nat.le_refl _, by simp [maxLen], fun _ => ⟨rfl, rfl⟩, fun _ h => by cases h⟩
  · refine ⟨some ⟨g, 0, none⟩, cap, rfl, hnc, hcm, fun h => (by cases h), fun ad had => ?_⟩
    cases had
    refine ⟨fun _ => rfl, fun i u hu => ?_⟩
    have := h.cellAt (g := g) (cap := cap) i (by
      have := (List.getElem?_eq_some_iff.1 hu).1
      rw [h.1] at this; exact this)
    simp only [at_, Nat.zero_add]
    rw [this]; exact hu
theorem Has.row {w0 w : World} {L : List Res} (h : Has w0 w L) {v : Value} {ty : TypeId} {esz : Nat} {cs : List Value} (hm : Res.row v ty esz cs ∈ L) (n : Nat) (hn : cs.length = n * esz) (he : 0 < esz) : RdC w v esz n cs := by
  obtain ⟨m, hr⟩ := h.holds _ hm
  have : m = n := by
    have := hr.1
    rw [hn] at this
    exact (Nat.eq_of_mul_eq_mul_right he this).symm
  subst this
  exact RdC.of_row hr
theorem Rd.row {w0 : World} {L : List Res} {v : Value} {ty : TypeId} {esz : Nat} {cs : List Value} (hm : Res.row v ty esz cs ∈ L) (n : Nat) (hn : cs.length = n * esz) (he : 0 < esz) : Rd w0 L v esz n cs := fun _ hw => hw.row hm n hn he
theorem Has.ro {w0 w : World} {L : List Res} (h : Has w0 w L) {v : Value} {esz n : Nat} {cs : List Value} (hm : Res.ro v esz n cs ∈ L) : RdC w v esz n cs := (h.holds _ hm).1
theorem Rd.ro {w0 : World} {L : List Res} {v : Value} {esz n : Nat} {cs : List Value} (hm : Res.ro v esz n cs ∈ L) : Rd w0 L v esz n cs := fun _ hw => hw.ro hm
theorem RdC.one {w : World} {v : Value} {esz n : Nat} {cs : List Value} (h : RdC w v esz n cs) : v.oneCell' = true := by
  obtain ⟨_, a, cap, rfl, _⟩ := h; rfl
theorem Has.one {w0 w : World} {L : List Res} (h : Has w0 w L) {v : Value} {ty : TypeId} {esz : Nat} {cs : List Value} (hm : Res.row v ty esz cs ∈ L) : v.oneCell' = true := by
  obtain ⟨m, hr⟩ := h.holds _ hm
  exact (RdC.of_row hr).one
theorem Has.oneRo {w0 w : World} {L : List Res} (h : Has w0 w L) {v : Value} {esz n : Nat} {cs : List Value} (hm : Res.ro v esz n cs ∈ L) : v.oneCell' = true := (h.ro hm).one
/-- What was there at the start reads as it did. -/
theorem Rd.old {w0 : World} {L : List Res} {v : Value} {esz n : Nat} {cs : List Value} (h : RdC w0 v esz n cs) : Rd w0 L v esz n cs := by
  intro w hw
  obtain ⟨hl, a, cap, rfl, h1, h2, h3, h4⟩ := h
  refine ⟨hl, a, cap, rfl, h1, h2, h3, fun ad had => ⟨(h4 ad had).1, fun i u hu => ?_⟩⟩
  have hc := (h4 ad had).2 i u hu
  exact (hw.below.cell (World.block_lt_of_cell? w0 _ hc)).trans hc

/-- A store into a row of one's own. -/
theorem Own.setRow {w0 w : World} {L : List Res} {v : Value} {ty : TypeId} {esz : Nat} {cs : List Value} (h : Own w0 w (.row v ty esz cs :: L)) (j : Nat) (hj : j < cs.length) (u : Value) :
    Own w0 (w.setCell (at_ v j) u) (.row v ty esz (cs.set j u) :: L) ∧ (∃ x, w.cell? (at_ v j) = some x) ∧ w.frozen? (at_ v j) = false := by
  obtain ⟨n, hr⟩ := h.holds _ List.mem_cons_self
  have hr0 := hr
  rcases hr.2 with ⟨rfl, rfl⟩ | ⟨g, cap, cur, fz, rfl, hb, hg, hfz, hnc, hcm, hcs, htake⟩
  · have := hr.1; simp at this; subst this; simp at hj
  · have he : at_ (.slice (some ⟨g, 0, none⟩) n cap) j = ⟨g, j, none⟩ := by simp [at_]
    rw [he]
    have h1 := hr0.stored j u
    refine ⟨?_, ⟨cs[j], ?_⟩, hr0.frozenAt j (by rw [← hr0.1]; exact hj)⟩
    · refine Own.update (A := [.row _ ty esz cs]) (A' := [.row (.slice (some ⟨g, 0, none⟩) n cap) ty esz (cs.set j u)]) h (h.below.setCell hb _) ?_ (List.pairwise_singleton _ _) ?_ ?_
      · intro r hr
        simp only [List.mem_singleton] at hr; subst hr
        exact ⟨n, h1⟩
      · intro r hr k hk
        simp only [List.mem_singleton] at hr; subst hr
        exact .inl ⟨_, List.mem_singleton.2 rfl, hk⟩
      · intro k _ hk
        exact heap_setCell_other w ⟨g, j, none⟩ k u (fun e => hk _ (List.mem_singleton.2 rfl) (by simp [Res.foot, Value.ownBlock, e]))
    · rw [hr0.cellAt j (by rw [← hr0.1]; exact hj)]
      simp [hj]

section
variable {P : Program} {ρ : Operand → Value} {ty : TypeId} {w w0 : World} {L : List Res}

/-! ### operations on memory -/
theorem run_value {s : Sem Value} {v : Value} {w w' : World} (h : s.run P w = .ok v w') : Sem.run P (do pure (Next.value (← s)) : Sem Next) w = .ok (.value v) w' := by
  rw [Sem.run_bind, h]; rfl
theorem run_skip {s : Sem Unit} {w w' : World} (h : s.run P w = .ok () w') : Sem.run P (do s; pure Next.skip : Sem Next) w = .ok .skip w' := by
  rw [Sem.run_bind, h]; rfl
theorem Val.nilCheck {x : Operand} {a : Addr} (hx : ρ x = .pointer (some a)) : Val P ρ (.nilCheck x) ty w (.pointer (some a)) := ⟨fun _ _ _ _ => by simp [execOp, hx]⟩
theorem run_fieldAt {s f off : Nat} [h : FieldOk P s f off] (a : Addr) (w : World) : (Instr.fieldAt s (.pointer (some a)) f).run P w = .ok (.pointer (some (a.add off))) w := by
  obtain ⟨fields, fd, i, h1, h2, h3, h4, h5⟩ := h.eq
  subst h3
  simp [Instr.fieldAt, run_underlying h1, h2, Instr.sureAddr, fieldPlace, sizeOf, typeInfo, h4, h5]
theorem Val.fieldAddr {s f off : Nat} {x : Operand} {b o k : Nat} [FieldOk P s f off] (hx : ρ x = .pointer (some ⟨b, o, none⟩)) (hk : o + off = k) : Val P ρ (.fieldAddr s x f) ty w (.pointer (some ⟨b, k, none⟩)) := by
  refine ⟨fun _ _ _ _ => ?_⟩
  have : (⟨b, o, none⟩ : Addr).add off = ⟨b, k, none⟩ := by
    subst hk; unfold Addr.add; by_cases h0 : off = 0
    · subst h0; rfl
    · rw [if_neg h0]
  have hr := run_fieldAt (P := P) (s := s) (f := f) (off := off) ⟨b, o, none⟩ w
  rw [this] at hr
  simp only [execOp, hx]
  exact run_value hr

/-- A type whose values are one cell. -/
def isOne : TypeDesc → Bool
  | .struct _ | .array _ _ => false
  | _ => true
class OneTy (P : Program) (t : TypeId) : Prop where
  eq : ∃ d, P.underlying t = some d ∧ isOne d = true ∧ ∃ i, P.info? t = some i ∧ i.size = 1
theorem run_isAgg_one {t : TypeId} [h : OneTy P t] (w : World) : (isAgg t).run P w = .ok false w := by
  obtain ⟨d, h1, h2, _⟩ := h.eq
  unfold isAgg
  cases d <;> simp_all [run_underlying h1, isOne]
theorem Val.load {t : TypeId} {x : Operand} {a : Addr} {u : Value} [OneTy P t] (hx : ρ x = .pointer (some a)) (hc : w.cell? a = some u) : Val P ρ (.load t x) ty w u := by
  refine ⟨fun _ _ _ _ => ?_⟩
  simp only [execOp, hx]
  simp [go_sem, Instr.loadAt, Instr.sureAddr, loadVar, run_isAgg_one, load, hc, Sem.run]
theorem Skips.store {t : TypeId} {x y : Operand} {a : Addr} {u old : Value} [h : OneTy P t] (hx : ρ x = .pointer (some a)) (hy : ρ y = u) (hu : u.oneCell' = true) (hc : w.cell? a = some old) (hf : w.frozen? a = false) :
    Skips P ρ (.store t x y) ty w (w.setCell a u) := by
  refine ⟨fun _ _ _ _ => ?_⟩
  obtain ⟨d, h1, h2, i, h3, h4⟩ := h.eq
  simp only [execOp, hx, hy]
  have hcs : u.cells = #[u] := by cases u <;> first | rfl | (simp [Value.oneCell'] at hu)
  have ha : a.add 0 = a := by simp [Addr.add]
  have hst : (Go.store a u).run P w = Result.ok () (w.setCell a u) := by
    cases u <;> first | (simp [Value.oneCell'] at hu; done) | simp [Go.store, Sem.run, hc, hf]
  refine run_skip ?_
  simp [Instr.storeAt, Instr.sureAddr, storeVar, hcs, sizeOf, typeInfo, h3, h4, storeCells, ha, hst]

theorem Val.len {t : TypeId} {d : TypeId} {x : Operand} {esz n : Nat} {cs : List Value} {v : Value} [hu : UTy P t (.slice d)] (hx : ρ x = v) (h : RdC w v esz n cs) : Val P ρ (.call { callee := .builtin .len, args := #[x], argTypes := #[t] }) ty w (.int .i64 n) := by
  refine ⟨fun _ _ _ _ => ?_⟩
  obtain ⟨hl, a, cap, rfl, h1, h2, h3, h4⟩ := h
  simp only [execOp, resolve]
  simp [go_sem, invoke, builtin, Builtin.len_, run_underlying hu.eq, hx, goInt]
end
end Go.Proofs.Ytcibdcfdchpnpaa.X
