/- Strings, and bytes as strings. Nothing is assumed. -/
import Derived.Test.YtcibdcfdchpnpaaX6
import Derived.Laws.BytesArg
import Derived.Laws.Strings
import Derived.Laws.Concat
namespace Go.Proofs.Ytcibdcfdchpnpaa.X
open Go Go.RowKit
set_option linter.unusedSimpArgs false
set_option linter.unusedVariables false

/-- A text's bytes; bytes as a text. -/
def sb (s : ByteArray) : List Nat := s.data.toList.map UInt8.toNat
def bst (bs : List Nat) : ByteArray := ⟨(bs.map UInt8.ofNat).toArray⟩
/-- Bytes. -/
def Bytes (bs : List Nat) : Prop := ∀ b ∈ bs, b < 256
theorem Bytes.at {bs : List Nat} (h : Bytes bs) (k : Nat) : bs.getD k 0 < 256 := by
  rw [List.getD_eq_getElem?_getD]
  cases hk : bs[k]? with
  | none => simp
  | some x => simpa using h x (List.mem_of_getElem? hk)
theorem Bytes.nil : Bytes [] := fun _ h => by cases h
theorem Bytes.append {a b : List Nat} (h : Bytes a) (h' : Bytes b) : Bytes (a ++ b) := fun x hx => by
  rcases List.mem_append.1 hx with hx | hx
  · exact h x hx
  · exact h' x hx
theorem Bytes.take {a : List Nat} (h : Bytes a) (k : Nat) : Bytes (a.take k) := fun x hx => h x (List.mem_of_mem_take hx)
theorem Bytes.drop {a : List Nat} (h : Bytes a) (k : Nat) : Bytes (a.drop k) := fun x hx => h x (List.mem_of_mem_drop hx)
theorem sb_bytes (s : ByteArray) : Bytes (sb s) := fun b hb => by
  obtain ⟨c, _, rfl⟩ := List.mem_map.1 hb
  exact c.toNat_lt
theorem sb_len (s : ByteArray) : (sb s).length = s.size := by
  rw [sb, List.length_map, Array.length_toList]; rfl
theorem sb_bst {bs : List Nat} (h : Bytes bs) : sb (bst bs) = bs := by
  simp only [sb, bst, List.map_map]
  have : ∀ b ∈ bs, (UInt8.toNat ∘ UInt8.ofNat) b = id b := fun b hb => UInt8.toNat_ofNat_of_lt' (h b hb)
  rw [List.map_congr_left this, List.map_id]
theorem bst_sb (s : ByteArray) : bst (sb s) = s := by
  simp only [sb, bst, List.map_map]
  have : ∀ b ∈ s.data.toList, (UInt8.ofNat ∘ UInt8.toNat) b = id b := fun b _ => UInt8.ofNat_toNat
  rw [List.map_congr_left this, List.map_id]
theorem sb_inj {s t : ByteArray} (h : sb s = sb t) : s = t := by rw [← bst_sb s, h, bst_sb]
theorem bst_inj {a b : List Nat} (ha : Bytes a) (hb : Bytes b) (h : bst a = bst b) : a = b := by rw [← sb_bst ha, h, sb_bst hb]
theorem sb_append (s t : ByteArray) : sb (s ++ t) = sb s ++ sb t := by simp [sb, ByteArray.data_append]
theorem bst_append (a b : List Nat) : bst (a ++ b) = bst a ++ bst b := by
  apply ByteArray.ext; simp [bst, ByteArray.data_append]
theorem toList_inj' {s t : ByteArray} (h : s.toList = t.toList) : s = t := by
  apply ByteArray.ext
  apply Array.toList_inj.1
  rw [ByteArray.toList_eq, ByteArray.toList_eq] at h
  exact h

section
variable {P : Program} {ρ : Operand → Value} {ty : TypeId} {w w0 : World} {L : List Res}
theorem Val.lenStr {t : TypeId} {x : Operand} {s : ByteArray} [hu : UTy P t .string] (hx : ρ x = .string s) : Val P ρ (.call { callee := .builtin .len, args := #[x], argTypes := #[t] }) ty w (.int .i64 (sb s).length) := by
  refine ⟨fun _ _ _ _ => ?_⟩
  simp only [execOp, resolve]
  rw [sb_len]
  refine run_value ?_
  simp only [invoke, builtin]
  simp only [List.map_toArray, List.map_cons, List.map_nil, hx]
  exact run_len_string _ _ _ _ hu.eq
theorem Val.idxStr {t : TypeId} {x ix : Operand} {s : ByteArray} {k : IntKind} {j : Nat} [hu : UTy P t .string] (hx : ρ x = .string s) (hi : ρ ix = .int k (j : Int)) (hj : j < (sb s).length) : Val P ρ (.index t x ix) ty w (.int .u8 (((sb s).getD j 0 : Nat) : Int)) := by
  refine ⟨fun _ _ _ _ => ?_⟩
  have hlt : j < s.size := by rw [← sb_len]; exact hj
  have h := run_index_string (P := P) w t s k (j : Int) hu.eq
  rw [dif_pos (by omega)] at h
  simp only [execOp, hx, hi]
  refine run_value ?_
  rw [h]
  have : (sb s).getD j 0 = s[j].toNat := by
    have h2 : j < s.data.toList.length := by rw [Array.length_toList]; exact hlt
    simp only [sb, List.getD_eq_getElem?_getD, List.getElem?_map, List.getElem?_eq_getElem h2, Option.map_some, Option.getD_some]
    rfl
  rw [this]
  rfl
theorem Val.eqlS {t yt : TypeId} {x y : Operand} {a b : ByteArray} (hx : ρ x = .string a) (hy : ρ y = .string b) : Val P ρ (.binOp .eql t x y yt) ty w (.bool (decide (a = b))) := by
  refine ⟨fun _ _ _ _ => ?_⟩
  simp only [execOp, hx, hy]
  have h1 : (binOp .eql t (.string a) (.string b)).run P w = .ok (.bool (decide (a = b))) w := by
    have : (a.toList == b.toList) = decide (a = b) := by
      rw [Bool.eq_iff_iff]; simp only [beq_iff_eq, decide_eq_true_eq]
      exact ⟨toList_inj', fun h => by rw [h]⟩
    simp [binOp, Op.stringOp, this]
  refine run_value ?_
  simp [eqGuard, h1]
theorem Val.neqS {t yt : TypeId} {x y : Operand} {a b : ByteArray} (hx : ρ x = .string a) (hy : ρ y = .string b) : Val P ρ (.binOp .neq t x y yt) ty w (.bool (decide (a ≠ b))) := by
  refine ⟨fun _ _ _ _ => ?_⟩
  simp only [execOp, hx, hy]
  have h1 : (binOp .neq t (.string a) (.string b)).run P w = .ok (.bool (decide (a ≠ b))) w := by
    have : (a.toList == b.toList) = decide (a = b) := by
      rw [Bool.eq_iff_iff]; simp only [beq_iff_eq, decide_eq_true_eq]
      exact ⟨toList_inj', fun h => by rw [h]⟩
    simp [binOp, Op.stringOp, this]
  refine run_value ?_
  simp [eqGuard, h1]
theorem Val.addS {t yt : TypeId} {x y : Operand} {a b : ByteArray} (hx : ρ x = .string a) (hy : ρ y = .string b) (h : (sb a).length + (sb b).length ≤ 9223372036854775807) : Val P ρ (.binOp .add t x y yt) ty w (.string (a ++ b)) := by
  refine ⟨fun _ _ _ _ => ?_⟩
  rw [sb_len, sb_len] at h
  simp only [execOp, hx, hy]
  have h1 : (binOp .add t (.string a) (.string b)).run P w = .ok (.string (a ++ b)) w := by
    simpa [binOp] using run_string_add_sum (P := P) w a b h
  refine run_value ?_
  simp [eqGuard, h1]
/-- string(b). -/
theorem Val.toStr {t d e : TypeId} {x : Operand} {v : Value} {bs : List Nat} [ht : UTy P t (.slice e)] [he : UTy P e (.int .u8)] [hd : UTy P d .string] (hx : ρ x = v) (hr : RdC1 w v (nat_ .u8) bs) : Val P ρ (.convert t d x) ty w (.string (bst bs)) := by
  refine ⟨fun _ _ _ _ => ?_⟩
  have hr0 := hr
  obtain ⟨hl, a, cap, rfl, h1, h2, h3, h4⟩ := hr
  simp only [execOp, hx]
  refine run_value ?_
  cases a with
  | none =>
    obtain ⟨h5, h6⟩ := h3 rfl
    have : bs = [] := List.eq_nil_of_length_eq_zero h5
    subst this
    exact run_convert_bytes_nil w t e ht.eq he.eq _ _ d hd.eq
  | some ad =>
    by_cases hc0 : cap = 0
    · have : bs = [] := List.eq_nil_of_length_eq_zero (by omega)
      subst this
      rw [run_convert_bytes_string w t d e (some ad) _ _ ht.eq he.eq hd.eq]
      have hl0 := run_loadCells_list (P := P) w ad [] (fun j v hj => by simp at hj)
      simp only [List.length_nil] at hl0
      simp [Conv.bytesToString, hl0, bst]
      rfl
    obtain ⟨b, o, sp⟩ := ad
    have hsp := (h4 _ rfl).1 (by omega)
    simp only at hsp; subst hsp
    have := run_convert_bytes_arg (P := P) w t e ht.eq he.eq b o bs.length cap (bs.map (fun x : Nat => (x : Int))) (by simp) (fun i hi => by
      have := (h4 _ rfl).2 i (.int .u8 ((bs.getD i 0 : Nat) : Int)) (by simp [hi])
      simp only [at_] at this
      rw [this]; simp [hi]) d hd.eq
    rw [this]
    congr 2
    apply ByteArray.ext
    simp only [strOfNums, bst, List.map_map]
    congr 1
theorem Val.cutStr {t : TypeId} {x lo hi : Operand} {kl kh : IntKind} {l h : Int} {s : ByteArray} [hu : UTy P t .string] (hx : ρ x = .string s) (hlo : ρ lo = .int kl l) (hhi : ρ hi = .int kh h) (h0 : 0 ≤ l) (h1 : l ≤ h) (h2 : h ≤ (sb s).length) :
    Val P ρ (.slice t x (some lo) (some hi) none) ty w (.string (bst (((sb s).drop l.toNat).take (h.toNat - l.toNat)))) := by
  refine ⟨fun _ _ _ _ => ?_⟩
  rw [sb_len] at h2
  simp only [execOp, hx, hlo, hhi, Option.map_some, Option.map_none]
  refine run_value ?_
  rw [run_sliceAt_string _ _ _ _ _ _ hu.eq, run_slice_string w t s kl kh l h hu.eq h0 h1 h2]
  congr 2
  apply sb_inj
  rw [sb_bst (((sb_bytes s).drop _).take _)]
  simp only [sb, ByteArray.data_extract, Array.toList_extract, List.map_take, List.map_drop, List.extract_eq_take_drop]
theorem Val.cutStrHi {t : TypeId} {x hi : Operand} {kh : IntKind} {h : Int} {s : ByteArray} [hu : UTy P t .string] (hx : ρ x = .string s) (hhi : ρ hi = .int kh h) (h1 : 0 ≤ h) (h2 : h ≤ (sb s).length) :
    Val P ρ (.slice t x none (some hi) none) ty w (.string (bst ((sb s).take h.toNat))) := by
  refine ⟨fun _ _ _ _ => ?_⟩
  rw [sb_len] at h2
  simp only [execOp, hx, hhi, Option.map_some, Option.map_none]
  refine run_value ?_
  rw [run_sliceAt_string _ _ _ _ _ _ hu.eq, run_slice_string_h _ _ _ hu.eq kh h h1 h2]
  congr 2
  apply sb_inj
  rw [sb_bst ((sb_bytes s).take _)]
  simp only [sb, ByteArray.data_extract, Array.toList_extract, List.map_take, List.map_drop, List.extract_eq_take_drop, Nat.sub_zero, List.drop_zero]
theorem Val.moveS {x : Operand} {s : ByteArray} (hx : ρ x = .string s) : Val P ρ (.move x) ty w (.string s) := Val.moveV hx
theorem Val.assignS {x : Operand} {s : ByteArray} (hx : ρ x = .string s) : Val P ρ (.assign x) ty w (.string s) := Val.assignV hx
end
end Go.Proofs.Ytcibdcfdchpnpaa.X
