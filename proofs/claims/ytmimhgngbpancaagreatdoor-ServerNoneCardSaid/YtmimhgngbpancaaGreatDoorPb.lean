import Derived.Test.YtmimhgngbpancaaGreatDoorPa
import Derived.Laws.Bits64b
import Derived.Laws.BytesArg
/- Plain: numbers as bytes. -/
set_option linter.unusedSimpArgs false
set_option linter.unusedVariables false
namespace Go.Proofs.YtmimhgngbpancaaGreatDoor
open Go.RowKit

def vbad (b : ByteArray) (i : Nat) : Bool := (i == 9 && decide (1 < byt b i)) || (byt b i == 0 && decide (0 < i))
/-- The number with whose bytes a text begins: from the i-th byte on. -/
def vtkF (b : ByteArray) : Nat → Nat → Int → Int × Int × Int
  | 0, _, _ => (0, 0, 2)
  | n + 1, i, acc => if vbad b i = true then (0, 0, 1) else if byt b i < 128 then (acc + byt b i % 128 * 128 ^ i, (i : Int) + 1, 0) else vtkF b n (i + 1) (acc + byt b i % 128 * 128 ^ i)
def vtake (b : ByteArray) : Int × Int × Int := vtkF b (min b.size 10) 0 0

theorem ret3g {k1 k2 k3 : IntKind} {a a' b b' c c' : Int} (h1 : a = a') (h2 : b = b') (h3 : c = c') : Ending.returned (.tuple #[.int k1 a, .int k2 b, .int k3 c]) = .returned (.tuple #[.int k1 a', .int k2 b', .int k3 c']) := by rw [h1, h2, h3]
theorem wrap_u64_of {n : Int} (h0 : 0 ≤ n) (h1 : n < 18446744073709551616) : IntKind.u64.wrap n = n := by
  simp [IntKind.wrap, IntKind.bits, IntKind.signed]; omega
theorem and_127 (c : Int) (h0 : 0 ≤ c) (h1 : c < 256) : bits .and .u8 c 127 = c % 128 := bits_mask .u8 8 (by decide) wraps_u8 7 (by decide) c h0 (by omega)
/-- One more byte of a number. -/
theorem vstep (acc c : Int) (k : Nat) (ha0 : 0 ≤ acc) (ha1 : acc < 128 ^ k) (hc0 : 0 ≤ c) (hc1 : c < 256) (hk : k ≤ 9) (h9 : k = 9 → c ≤ 1) :
    bits .or .u64 acc (IntKind.u64.wrap (IntKind.u64.wrap (bits .and .u8 c 127) * 2 ^ (7 * k))) = acc + c % 128 * 128 ^ k ∧ acc + c % 128 * 128 ^ k < 18446744073709551616 ∧ acc + c % 128 * 128 ^ k < 128 ^ (k + 1) := by
  have e : (2 : Int) ^ (7 * k) = 128 ^ k := by rw [Int.pow_mul]; rfl
  rw [and_127 c hc0 hc1, wrap_u64_of (n := c % 128) (by omega) (by omega), e]
  obtain ⟨a, rfl⟩ := Int.eq_ofNat_of_zero_le ha0
  obtain ⟨x, hx⟩ := Int.eq_ofNat_of_zero_le (show 0 ≤ c % 128 by omega)
  rw [hx]
  have hx1 : x < 128 := by omega
  have ha2 : a < 128 ^ k := by exact_mod_cast ha1
  have e2 : ((x : Int) * 128 ^ k) = ((x * 128 ^ k : Nat) : Int) := by push_cast; rfl
  have hp : 128 ^ k = 2 ^ (7 * k) := by rw [Nat.pow_mul]
  have hb : x * 128 ^ k + 128 ^ k ≤ 18446744073709551616 := by
    have h10 : x * 128 ^ k + 128 ^ k = (x + 1) * 128 ^ k := by rw [Nat.add_mul, Nat.one_mul]
    rw [h10]
    rcases Nat.lt_or_ge k 9 with h | h
    · have h8 : 128 ^ k ≤ 128 ^ 8 := Nat.pow_le_pow_right (by decide) (by omega)
      calc (x + 1) * 128 ^ k ≤ 128 * 128 ^ 8 := Nat.mul_le_mul (by omega) h8
        _ ≤ 18446744073709551616 := by decide
    · have : k = 9 := by omega
      subst this
      have := h9 rfl
      have : x ≤ 1 := by omega
      calc (x + 1) * 128 ^ 9 ≤ 2 * 128 ^ 9 := Nat.mul_le_mul (by omega) (Nat.le_refl _)
        _ ≤ 18446744073709551616 := by decide
  rw [e2, wrap_u64_of (Int.natCast_nonneg _) (by omega), bits_or_u64_nat a (x * 128 ^ k) (by omega) (by omega)]
  have hor : a ||| x * 128 ^ k = a + x * 128 ^ k := by
    rw [hp] at ha2 ⊢
    rw [Nat.or_comm, Nat.mul_comm, ← Nat.two_pow_add_eq_or_of_lt ha2, Nat.add_comm]
  rw [hor]
  refine ⟨by push_cast; rfl, by omega, ?_⟩
  have : a + x * 128 ^ k < 128 ^ (k + 1) := by
    rw [Nat.pow_succ]
    calc a + x * 128 ^ k < 128 ^ k + x * 128 ^ k := by omega
      _ = (x + 1) * 128 ^ k := by rw [Nat.add_mul, Nat.one_mul, Nat.add_comm]
      _ ≤ 128 * 128 ^ k := Nat.mul_le_mul (by omega) (Nat.le_refl _)
      _ = 128 ^ k * 128 := Nat.mul_comm _ _
  exact_mod_cast this

theorem vtkF_bad {b : ByteArray} {n i : Nat} {acc : Int} (h : vbad b i = true) : vtkF b (n + 1) i acc = (0, 0, 1) := by
  unfold vtkF; rw [if_pos h]
theorem vtkF_end {b : ByteArray} {n i : Nat} {acc : Int} (h : vbad b i = false) (h1 : byt b i < 128) : vtkF b (n + 1) i acc = (acc + byt b i % 128 * 128 ^ i, (i : Int) + 1, 0) := by
  unfold vtkF; rw [if_neg (by simp [h]), if_pos h1]
theorem vtkF_on {b : ByteArray} {n i : Nat} {acc : Int} (h : vbad b i = false) (h1 : ¬ byt b i < 128) : vtkF b (n + 1) i acc = vtkF b n (i + 1) (acc + byt b i % 128 * 128 ^ i) := by
  rw [vtkF]; rw [if_neg (by simp [h]), if_neg h1]

theorem vtkF_le (b : ByteArray) : ∀ (n i : Nat) (acc : Int), 0 ≤ (vtkF b n i acc).2.1 ∧ (vtkF b n i acc).2.1 ≤ i + n
  | 0, i, acc => by unfold vtkF; simp
  | n + 1, i, acc => by
    unfold vtkF
    split
    · simp; omega
    · split
      · simp; omega
      · have := vtkF_le b n (i + 1) (acc + byt b i % 128 * 128 ^ i)
        push_cast at this ⊢
        omega
theorem vtake_le (b : ByteArray) : 0 ≤ (vtake b).2.1 ∧ (vtake b).2.1 ≤ b.size := by
  have := vtkF_le b (min b.size 10) 0 0
  unfold vtake
  omega
theorem vtkF_range (b : ByteArray) : ∀ (n i : Nat) (acc : Int), 0 ≤ acc → acc < 128 ^ i → n + i ≤ 10 → 0 ≤ (vtkF b n i acc).1 ∧ (vtkF b n i acc).1 < 18446744073709551616
  | 0, i, acc, _, _, _ => by unfold vtkF; simp
  | n + 1, i, acc, h0, h1, h2 => by
    have n0 := byt_nonneg b i
    have l0 := byt_lt b i
    by_cases hb : vbad b i = true
    · rw [vtkF_bad hb]; simp
    · have hb' : vbad b i = false := by simpa using hb
      have h9 : i = 9 → byt b i ≤ 1 := by
        intro h
        simp [vbad] at hb'
        have := hb'.1 h
        omega
      have hs := vstep acc (byt b i) i h0 h1 n0 l0 (by omega) h9
      have hm := Int.mul_nonneg (show 0 ≤ byt b i % 128 by omega) (show (0 : Int) ≤ 128 ^ i from Int.le_of_lt (Int.pow_pos (by decide)))
      by_cases hl : byt b i < 128
      · rw [vtkF_end hb' hl]
        exact ⟨by simp only []; omega, hs.2.1⟩
      · rw [vtkF_on hb' hl]
        exact vtkF_range b n (i + 1) _ (by omega) hs.2.2 (by omega)
theorem vtake_range (b : ByteArray) : 0 ≤ (vtake b).1 ∧ (vtake b).1 < 18446744073709551616 := vtkF_range b _ 0 0 (by omega) (by omega) (by omega)

/-- A number's bytes. -/
def vputF : Nat → Nat → List Int
  | 0, _ => []
  | f + 1, n => if n < 128 then [(n : Int)] else ((n : Int) % 128 + 128) :: vputF f (n / 128)
def vput (n : Nat) : List Int := vputF 10 n
def vputB (n : Nat) : ByteArray := strOfNums (vput n)
theorem vputF_le : ∀ (f n : Nat), (vputF f n).length ≤ f
  | 0, _ => by simp [vputF]
  | f + 1, n => by
    unfold vputF
    split
    · simp
    · have := vputF_le f (n / 128); simp; omega
theorem vputF_last {f n : Nat} (h : n < 128) : vputF (f + 1) n = [(n : Int)] := by unfold vputF; rw [if_pos h]
theorem vputF_on {f n : Nat} (h : ¬ n < 128) : vputF (f + 1) n = ((n : Int) % 128 + 128) :: vputF f (n / 128) := by rw [vputF, if_neg h]
theorem vputB_size (n : Nat) : (vputB n).size ≤ 10 := by unfold vputB; rw [strOfNums_size]; exact vputF_le _ _
theorem or_128 (n : Int) (h0 : 0 ≤ n) : bits .or .u8 (n % 256) 128 = n % 128 + 128 := by
  obtain ⟨a, rfl⟩ := Int.eq_ofNat_of_zero_le h0
  have e : ((a : Int) % 256) = ((a % 256 : Nat) : Int) := by omega
  have h := (bits_nat .u8 8 (by decide) wraps_u8 (a % 256) 128 (by omega) (by decide)).2
  have hd : ∀ x : Fin 256, x.val ||| 128 = x.val % 128 + 128 := by decide +kernel
  rw [e]
  refine h.trans ?_
  have := hd ⟨a % 256, by omega⟩
  simp only [] at this
  rw [this]
  omega

/-- A reader. -/
structure Rd where
  b : ByteArray
  at_ : Nat
  e : Int
def Rd.left (r : Rd) : ByteArray := r.b.extract r.at_ r.b.size
theorem Rd.left_size (r : Rd) (h : r.at_ ≤ r.b.size) : r.left.size = r.b.size - r.at_ := by unfold Rd.left; rw [ByteArray.size_extract]; omega
def rdCells (r : Rd) : Array Value := #[.string r.b, .int .i64 r.at_, .int .i64 r.e]
/-- A reader behind a step that comes to (k, e). -/
def Rd.on (r : Rd) (k e : Int) : Rd := if r.e ≠ 0 then r else if e ≠ 0 then { r with e := e } else { r with at_ := r.at_ + k.toNat }
def Rd.pick {α : Type} (r : Rd) (e : Int) (z v : α) : α := if r.e ≠ 0 then z else if e ≠ 0 then z else v
theorem Rd.on_ok {r : Rd} {k e : Int} (h : r.e = 0) (he : e = 0) : r.on k e = ⟨r.b, r.at_ + k.toNat, r.e⟩ := by unfold Rd.on; rw [if_neg (by simpa using h), if_neg (by simpa using he)]
theorem Rd.on_fail {r : Rd} {k e : Int} (h : r.e = 0) (he : ¬ e = 0) : r.on k e = ⟨r.b, r.at_, e⟩ := by unfold Rd.on; rw [if_neg (by simpa using h), if_pos he]
theorem Rd.on_bad {r : Rd} {k e : Int} (h : ¬ r.e = 0) : r.on k e = r := by unfold Rd.on; rw [if_pos h]
theorem Rd.pick_ok {α : Type} {r : Rd} {e : Int} {z v : α} (h : r.e = 0) (he : e = 0) : r.pick e z v = v := by unfold Rd.pick; rw [if_neg (by simpa using h), if_neg (by simpa using he)]
theorem Rd.pick_fail {α : Type} {r : Rd} {e : Int} {z v : α} (h : r.e = 0) (he : ¬ e = 0) : r.pick e z v = z := by unfold Rd.pick; rw [if_neg (by simpa using h), if_pos he]
theorem Rd.pick_bad {α : Type} {r : Rd} {e : Int} {z v : α} (h : ¬ r.e = 0) : r.pick e z v = z := by unfold Rd.pick; rw [if_pos h]
theorem Rd.on_b (r : Rd) (k e : Int) : (r.on k e).b = r.b := by
  unfold Rd.on
  split
  · rfl
  · split <;> rfl
theorem Rd.on_at (r : Rd) (k e : Int) (h : r.at_ ≤ r.b.size) (hk : k ≤ r.left.size) : (r.on k e).at_ ≤ r.b.size := by
  rw [r.left_size h] at hk
  unfold Rd.on
  split
  · exact h
  · split
    · exact h
    · simp only []; omega
def numV (r : Rd) : Int := r.pick (vtake r.left).2.2 0 (vtake r.left).1
def numR (r : Rd) : Rd := r.on (vtake r.left).2.1 (vtake r.left).2.2
/-- What is wrong with a number that must not be greater than a most. -/
def intE (b : ByteArray) (most : Int) : Int := if (vtake b).2.2 = 0 ∧ max most 0 < (vtake b).1 then 3 else (vtake b).2.2
def intV (r : Rd) (most : Int) : Int := r.pick (intE r.left most) 0 (wrap64 (vtake r.left).1)
def intR (r : Rd) (most : Int) : Rd := r.on (vtake r.left).2.1 (intE r.left most)
/-- A span's text, how many bytes it takes, and what is wrong with it. -/
def textE (b : ByteArray) (most : Int) : Int := if (vtake b).2.2 ≠ 0 then (vtake b).2.2 else if max most 0 < (vtake b).1 then 3 else if (b.size : Int) - (vtake b).2.1 < (vtake b).1 then 2 else 0
def textK (b : ByteArray) (most : Int) : Int := if textE b most = 0 then (vtake b).2.1 + (vtake b).1 else 0
def textS (b : ByteArray) (most : Int) : ByteArray := if textE b most = 0 then b.extract (vtake b).2.1.toNat ((vtake b).2.1 + (vtake b).1).toNat else ByteArray.empty
theorem textE_ok {b : ByteArray} {most : Int} (h : textE b most = 0) : (vtake b).2.2 = 0 ∧ (vtake b).1 ≤ max most 0 ∧ (vtake b).2.1 + (vtake b).1 ≤ b.size := by
  unfold textE at h
  split at h
  · rename_i h1; exact absurd h h1
  · rename_i h1
    split at h
    · cases h
    · split at h
      · cases h
      · exact ⟨by simpa using h1, by omega, by omega⟩
theorem textK_le (b : ByteArray) (most : Int) : 0 ≤ textK b most ∧ textK b most ≤ b.size := by
  have h1 := vtake_le b
  have h2 := vtake_range b
  unfold textK
  split
  · rename_i h
    have := textE_ok h
    omega
  · omega
def textV (r : Rd) (most : Int) : ByteArray := r.pick (textE r.left most) ByteArray.empty (textS r.left most)
def textR (r : Rd) (most : Int) : Rd := r.on (textK r.left most) (textE r.left most)
def restV (r : Rd) : ByteArray := r.pick 0 ByteArray.empty r.left
def restR (r : Rd) : Rd := r.on r.left.size 0
def doneE (r : Rd) : Int := if r.e ≠ 0 then r.e else if r.at_ < r.b.size then 1 else 0

/-- The class of a length that can be padded. -/
def cls (n : Int) : Int := if n ≤ 30 then 32 else if n ≤ 62 then 64 else if n ≤ 126 then 128 else if n ≤ 254 then 256 else if n ≤ 510 then 512 else 1024
theorem cls_ge (n : Int) (h : n ≤ 1022) : n + 2 ≤ cls n ∧ 32 ≤ cls n ∧ cls n ≤ 1024 := by unfold cls; repeat' split <;> omega
end Go.Proofs.YtmimhgngbpancaaGreatDoor
