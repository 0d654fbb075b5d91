/- Bits that are turned are another check. Nothing is assumed. -/
import Derived.Test.YtmffpmmhdianeaaLawCrc
import Derived.Test.YtmffpmmhdianeaaPureCrc
namespace Go.Proofs.Ytmffpmmhdianeaa.X
open Go Go.RowKit
set_option linter.unusedSimpArgs false
set_option linter.unusedVariables false
/-- Two rows, byte by byte. -/
def zx (x y : List Nat) : List Nat := List.zipWith (· ^^^ ·) x y
theorem xor_byte {a b : Nat} (ha : a < 256) (hb : b < 256) : a ^^^ b < 256 := Nat.xor_lt_two_pow (n := 8) ha hb
theorem crcFold_zx : ∀ (x y : List Nat) (r r' : Nat), x.length = y.length → Bytes x → Bytes y → crcFold r x ^^^ crcFold r' y = crcFold (r ^^^ r') (zx x y)
  | [], [], r, r', _, _, _ => rfl
  | [], _ :: _, _, _, h, _, _ => by simp at h
  | _ :: _, [], _, _, h, _, _ => by simp at h
  | a :: x, b :: y, r, r', h, hx, hy => by
    have ha : a < 256 := hx a List.mem_cons_self
    have hb : b < 256 := hy b List.mem_cons_self
    have ih := crcFold_zx x y (crcStep r a) (crcStep r' b) (by simpa using h) (fun c hc => hx c (List.mem_cons_of_mem _ hc)) (fun c hc => hy c (List.mem_cons_of_mem _ hc))
    show crcFold (crcStep r a) x ^^^ crcFold (crcStep r' b) y = crcFold (crcStep (r ^^^ r') (a ^^^ b)) (zx x y)
    rw [ih, crcStep_eq ha, crcStep_eq hb, crcStep_eq (xor_byte ha hb), ← iterN_xor]
    have : r ^^^ a ^^^ (r' ^^^ b) = r ^^^ r' ^^^ (a ^^^ b) := by ac_rfl
    rw [this]
theorem crcFold_zeros (r : Nat) : ∀ n, crcFold r (List.replicate n 0) = iterN (8 * n) r
  | 0 => rfl
  | n + 1 => by
    rw [List.replicate_succ]
    show crcFold (crcStep r 0) (List.replicate n 0) = _
    rw [crcFold_zeros, crcStep_eq (by decide), Nat.xor_zero, ← iterN_add]
    congr 1; omega
theorem crcFold_bit (u : Nat) (hu : u < 256) : ∀ (n p : Nat), p < n → crcFold 0 ((List.replicate n 0).set p u) = iterN (8 * (n - p)) u
  | 0, _, h => by omega
  | n + 1, 0, _ => by
    rw [List.replicate_succ, List.set_cons_zero]
    show crcFold (crcStep 0 u) (List.replicate n 0) = _
    rw [crcFold_zeros, crcStep_eq hu, Nat.zero_xor, ← iterN_add]
    congr 1; omega
  | n + 1, p + 1, h => by
    rw [List.replicate_succ, List.set_cons_succ]
    show crcFold (crcStep 0 0) ((List.replicate n 0).set p u) = _
    rw [crcStep_eq (by decide), Nat.xor_zero, iterN_zero, crcFold_bit u hu n p (by omega)]
    congr 1; omega
theorem zx_set : ∀ (x : List Nat) (p u : Nat), zx (x.set p (x.getD p 0 ^^^ u)) x = (List.replicate x.length 0).set p (if p < x.length then u else 0)
  | [], p, u => by cases p <;> rfl
  | a :: x, 0, u => by
    simp only [List.set_cons_zero, List.getD_cons_zero, List.length_cons, Nat.zero_lt_succ, if_true, List.replicate_succ]
    have : ∀ y : List Nat, zx y y = List.replicate y.length 0 := fun y => by
      induction y with
      | nil => rfl
      | cons b y ih => show (b ^^^ b) :: zx y y = _; rw [ih, Nat.xor_self]; rfl
    show ((a ^^^ u) ^^^ a) :: zx x x = _
    rw [this]
    congr 1
    rw [Nat.xor_comm a u, Nat.xor_assoc, Nat.xor_self, Nat.xor_zero]
  | a :: x, p + 1, u => by
    simp only [List.set_cons_succ, List.getD_cons_succ, List.length_cons, Nat.add_lt_add_iff_right, List.replicate_succ]
    show (a ^^^ a) :: zx (x.set p (x.getD p 0 ^^^ u)) x = _
    rw [zx_set x p u, Nat.xor_self]
/-- A row with one bit turned. -/
def flip (bs : List Nat) (i : Nat) : List Nat := bs.set (i / 8) (bs.getD (i / 8) 0 ^^^ (1 <<< (i % 8)) % 2 ^ IntKind.u8.bits)
theorem flip_len (bs : List Nat) (i : Nat) : (flip bs i).length = bs.length := by simp [flip]
theorem bit_eq (i : Nat) : (1 <<< (i % 8)) % 2 ^ IntKind.u8.bits = 1 <<< (i % 8) := by
  apply Nat.mod_eq_of_lt
  rw [Nat.shiftLeft_eq, Nat.one_mul]
  exact Nat.pow_lt_pow_right (by decide) (Nat.mod_lt _ (by decide))
theorem bit_lt (i : Nat) : 1 <<< (i % 8) < 256 := by
  rw [Nat.shiftLeft_eq, Nat.one_mul]
  show 2 ^ (i % 8) < 2 ^ 8
  exact Nat.pow_lt_pow_right (by decide) (Nat.mod_lt _ (by decide))
theorem flip_bytes {bs : List Nat} (h : Bytes bs) (i : Nat) : Bytes (flip bs i) := fun b hb => by
  rcases List.mem_or_eq_of_mem_set hb with hb | rfl
  · exact h b hb
  · rw [bit_eq]; exact xor_byte (h.at _) (bit_lt i)
theorem flip_diff {bs : List Nat} (h : Bytes bs) {i : Nat} (hi : i < 8 * bs.length) (r : Nat) : crcFold r (flip bs i) ^^^ crcFold r bs = iterN (8 * bs.length - i) 1 := by
  rw [crcFold_zx _ _ r r (flip_len bs i) (flip_bytes h i) h, Nat.xor_self]
  unfold flip
  rw [bit_eq, zx_set, if_pos (by omega), crcFold_bit _ (bit_lt i) _ _ (by omega)]
  have e : 8 * (bs.length - i / 8) = i % 8 + (8 * bs.length - i) := by omega
  rw [e, iterN_add, iterN_shl]
theorem step1_zero {z : Nat} (h : z < 2 ^ 32) (h0 : step1 z = 0) : z = 0 := by
  rw [step1_eq] at h0
  by_cases ho : z % 2 = 1
  · rw [if_pos ho] at h0
    have : z >>> 1 = 3988292384 := by
      have := congrArg (· ^^^ 3988292384) h0
      simpa [Nat.xor_assoc] using this
    rw [Nat.shiftRight_eq_div_pow] at this
    omega
  · rw [if_neg ho, Nat.xor_zero, Nat.shiftRight_eq_div_pow] at h0
    omega
theorem xor_eq_zero {a b : Nat} (h : a ^^^ b = 0) : a = b := by
  have := congrArg (· ^^^ b) h
  simpa [Nat.xor_assoc] using this
theorem iterN_inj {a b : Nat} (ha : Fits .u32 a) (hb : Fits .u32 b) : ∀ k, iterN k a = iterN k b → a = b
  | 0, h => h
  | k + 1, h => by
    have h1 : step1 (iterN k (a ^^^ b)) = 0 := by
      show iterN (k + 1) (a ^^^ b) = 0
      rw [iterN_xor, h, Nat.xor_self]
    have h2 := step1_zero (iterN_fits (Fits.xor ha hb) k) h1
    exact iterN_inj ha hb k (xor_eq_zero (by rw [← iterN_xor]; exact h2))
theorem iterN_one_ne (d : Nat) : iterN d 1 ≠ 0 := fun h => by
  have : iterN d 1 = iterN d 0 := by rw [h, iterN_zero]
  have := iterN_inj (by decide) (by decide) d this
  cases this
/-- The first numbers that one leads to. -/
def chain : Nat → Nat → Bool
  | 0, _ => true
  | k + 1, r => let s := step1 r; s != 1 && chain k s
theorem chain_ok : ∀ (k r d : Nat), chain k r = true → 0 < d → d ≤ k → iterN d r ≠ 1
  | 0, _, _, _, h0, h1 => by omega
  | k + 1, r, d, h, h0, h1 => by
    unfold chain at h
    simp only [Bool.and_eq_true, bne_iff_ne] at h
    by_cases hd : d = 1
    · subst hd; exact h.1
    · have e : iterN d r = iterN (d - 1) (step1 r) := by
        have : d = 1 + (d - 1) := by omega
        conv => lhs; rw [this, iterN_add]
        rfl
      rw [e]
      exact chain_ok k _ _ h.2 (by omega) (by omega)
theorem chain_800 : chain 800 1 = true := by decide +kernel
theorem iterN_one_inj {a b : Nat} (ha : a ≤ 800) (hb : b ≤ 800) (h : iterN a 1 = iterN b 1) : a = b := by
  rcases Nat.lt_trichotomy a b with hlt | he | hlt
  · exfalso
    have e : iterN b 1 = iterN a (iterN (b - a) 1) := by
      rw [← iterN_add]; congr 1; omega
    rw [e] at h
    exact chain_ok 800 1 (b - a) chain_800 (by omega) (by omega) (iterN_inj (by decide) (iterN_fits (by decide) _) a h).symm
  · exact he
  · exfalso
    have e : iterN a 1 = iterN b (iterN (a - b) 1) := by
      rw [← iterN_add]; congr 1; omega
    rw [e] at h
    exact chain_ok 800 1 (a - b) chain_800 (by omega) (by omega) (iterN_inj (iterN_fits (by decide) _) (by decide) b h)
theorem updN_xor (x y : List Nat) : updN 0 x ^^^ updN 0 y = crcFold (notN 0) x ^^^ crcFold (notN 0) y := by
  unfold updN
  have : ∀ a b, notN a ^^^ notN b = a ^^^ b := fun a b => by
    unfold notN
    generalize 2 ^ IntKind.u32.bits - 1 = M
    have : M ^^^ a ^^^ (M ^^^ b) = (M ^^^ M) ^^^ (a ^^^ b) := by ac_rfl
    rw [this, Nat.xor_self, Nat.zero_xor]
  exact this _ _
theorem flip_ne {bs : List Nat} (h : Bytes bs) {i : Nat} (hi : i < 8 * bs.length) : updN 0 (flip bs i) ≠ updN 0 bs := fun e => by
  have := updN_xor (flip bs i) bs
  rw [e, Nat.xor_self, flip_diff h hi] at this
  exact iterN_one_ne _ this.symm
theorem flip_two {bs : List Nat} (h : Bytes bs) {i k : Nat} (hl : bs.length ≤ 100) (hi : i < 8 * bs.length) (hk : k < 8 * bs.length) : updN 0 (flip (flip bs i) k) = updN 0 bs ↔ i = k := by
  have d2 := flip_diff (flip_bytes h i) (i := k) (by rw [flip_len]; exact hk) (notN 0)
  have d1 := flip_diff h hi (notN 0)
  rw [flip_len] at d2
  have e : updN 0 (flip (flip bs i) k) ^^^ updN 0 bs = iterN (8 * bs.length - k) 1 ^^^ iterN (8 * bs.length - i) 1 := by
    rw [updN_xor, ← d1, ← d2]
    generalize crcFold (notN 0) (flip (flip bs i) k) = A
    generalize crcFold (notN 0) (flip bs i) = B
    generalize crcFold (notN 0) bs = C
    have : A ^^^ B ^^^ (B ^^^ C) = A ^^^ C ^^^ (B ^^^ B) := by ac_rfl
    rw [this, Nat.xor_self, Nat.xor_zero]
  constructor
  · intro he
    rw [he, Nat.xor_self] at e
    have := iterN_one_inj (by omega) (by omega) (xor_eq_zero e.symm)
    omega
  · intro he
    subst he
    rw [Nat.xor_self] at e
    exact xor_eq_zero e
/-- Three rows. -/
theorem sums_eq {a b : List Nat} (ha : Bytes a) (hb : Bytes b) (hl : a.length = b.length) : updN 0 a ^^^ updN 0 b ^^^ updN 0 (List.replicate a.length 0) = updN 0 (zx a b) := by
  have hz : Bytes (List.replicate a.length 0) := fun x hx => by rw [(List.mem_replicate.1 hx).2]; decide
  have hzx : Bytes (zx a b) := by
    clear hl hz
    induction a generalizing b with
    | nil => exact fun x hx => by cases hx
    | cons c a ih =>
      cases b with
      | nil => exact fun x hx => by cases hx
      | cons d b =>
        intro x hx
        rcases List.mem_cons.1 hx with rfl | hx
        · exact xor_byte (ha c List.mem_cons_self) (hb d List.mem_cons_self)
        · exact ih (fun y hy => ha y (List.mem_cons_of_mem _ hy)) (fun y hy => hb y (List.mem_cons_of_mem _ hy)) x hx
  have hzl : (zx a b).length = a.length := by simp [zx, hl]
  have hzz : zx (zx a b) (List.replicate a.length 0) = zx a b := by
    clear hz hzx ha hb
    generalize zx a b = c at hzl
    rw [← hzl]
    clear hzl
    induction c with
    | nil => rfl
    | cons x c ih => show (x ^^^ 0) :: zx c (List.replicate c.length 0) = _; rw [ih, Nat.xor_zero]
  have key : crcFold (notN 0) a ^^^ crcFold (notN 0) b ^^^ crcFold (notN 0) (List.replicate a.length 0) = crcFold (notN 0) (zx a b) := by
    rw [crcFold_zx a b _ _ hl ha hb, crcFold_zx _ _ _ _ (by rw [hzl]; simp) hzx hz, hzz, Nat.xor_self, Nat.zero_xor]
  unfold updN
  rw [← key]
  unfold notN
  generalize 2 ^ IntKind.u32.bits - 1 = M
  generalize crcFold (M ^^^ 0) a = A
  generalize crcFold (M ^^^ 0) b = B
  generalize crcFold (M ^^^ 0) (List.replicate a.length 0) = C
  have : M ^^^ A ^^^ (M ^^^ B) ^^^ (M ^^^ C) = (M ^^^ M) ^^^ (M ^^^ (A ^^^ B ^^^ C)) := by ac_rfl
  rw [this, Nat.xor_self, Nat.zero_xor]
end Go.Proofs.Ytmffpmmhdianeaa.X
