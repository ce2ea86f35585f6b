import Derived.Test.YtmimhgngbpancaaGreatDoorBa
import Derived.Laws.BitsLemmas
/- Plain: bytes of a text, heads of frames, frames. -/
set_option linter.unusedSimpArgs false
set_option linter.unusedVariables false
namespace Go.Proofs.YtmimhgngbpancaaGreatDoor
open Go.RowKit

/-- The same but for what was drawn. -/
def Dr (w w' : World) : Prop := ∃ n, w' = w.drewN n
theorem Dr.ch {w w' : World} (h : Dr w w') : Ch [] w w' := by obtain ⟨n, rfl⟩ := h; exact (Ch.refl _ _).drewN n
theorem Dr.refl (w : World) : Dr w w := ⟨0, rfl⟩
theorem Dr.mk (w : World) (n : Nat) : Dr w (w.drewN n) := ⟨n, rfl⟩
theorem Dr.drew (w : World) : Dr w w.drew := ⟨1, rfl⟩
theorem Dr.trans {a b c : World} (h : Dr a b) (k : Dr b c) : Dr a c := by
  obtain ⟨n, rfl⟩ := h
  obtain ⟨m, rfl⟩ := k
  refine ⟨n + m, ?_⟩
  simp [World.drewN, Nat.add_assoc]

theorem quiet_eq {P : Program} {f : FuncId} {args : Array Value} {w : World} {n : Nat} {v : Value}
    (h : Calls P f args (w.drewN n) fun e w' => e = .returned v ∧ w.drewN n = w') : Calls P f args (w.drewN n) fun e w'' => e = .returned v ∧ ∃ m, w'' = w.drewN m :=
  h.mono fun _ _ ⟨he, hm⟩ => ⟨he, n, hm.symm⟩

/-- The byte at a place (0 behind the end). -/
def byt (b : ByteArray) (i : Nat) : Int := ((b.data[i]?.getD 0).toNat : Int)
theorem byt_at (b : ByteArray) (i : Nat) (h : i < b.size) : (b[i].toNat : Int) = byt b i := by
  have h' : i < b.data.size := h
  have e : b[i] = b.data[i] := rfl
  unfold byt
  rw [e, Array.getElem?_eq_getElem h']
  rfl
theorem byt_nonneg (b : ByteArray) (i : Nat) : 0 ≤ byt b i := by unfold byt; omega
theorem byt_lt (b : ByteArray) (i : Nat) : byt b i < 256 := by
  have := (b.data[i]?.getD 0).toNat_lt
  unfold byt; omega

theorem or_shift8 (x y : Int) (hx0 : 0 ≤ x) (hx : x < 256) (hy0 : 0 ≤ y) (hy : y < 256) : bits .or .i64 (x * 256) y = x * 256 + y := by
  exact bits_join .i64 63 (by decide) (fun n h0 h1 => by rw [IntKind.wrap_i64]; omega) 8 (x * 256) y (by omega) (by omega) (by omega) (by omega) (by omega) (by omega)

/-- How long a head tells the body to be. -/
def hlen (b : ByteArray) : Int := byt b 2 * 256 + byt b 3
theorem hlen_nonneg (b : ByteArray) : 0 ≤ hlen b := by have := byt_nonneg b 2; have := byt_nonneg b 3; unfold hlen; omega
/-- What is wrong with a head. -/
def headE (b : ByteArray) : Int := if b.size < 4 then 2 else if byt b 0 < 1 ∨ 9 < byt b 0 then 4 else if 1024 < hlen b then 3 else 0
/-- What is wrong with a frame. -/
def takeE (b : ByteArray) : Int := if headE b ≠ 0 then headE b else if (b.size : Int) - 4 < hlen b then 2 else 0
/-- The body of the frame with which bytes begin, and what is behind it. -/
def fbody (b : ByteArray) : ByteArray := b.extract 4 (4 + (hlen b).toNat)
def frest (b : ByteArray) : ByteArray := b.extract (4 + (hlen b).toNat) b.size
theorem takeE_ok {b : ByteArray} (h : takeE b = 0) : headE b = 0 ∧ 4 ≤ b.size ∧ 4 + hlen b ≤ b.size ∧ hlen b ≤ 1024 := by
  have hh : headE b = 0 := by
    apply Classical.byContradiction
    intro hh
    unfold takeE at h; rw [if_pos hh] at h; exact hh h
  have hs : ¬ b.size < 4 := by intro hs; unfold headE at hh; rw [if_pos hs] at hh; cases hh
  have hk : ¬ (byt b 0 < 1 ∨ 9 < byt b 0) := by intro hk; unfold headE at hh; rw [if_neg hs, if_pos hk] at hh; cases hh
  have hl : ¬ 1024 < hlen b := by intro hl; unfold headE at hh; rw [if_neg hs, if_neg hk, if_pos hl] at hh; cases hh
  refine ⟨hh, by omega, ?_, by omega⟩
  apply Classical.byContradiction
  intro hx
  unfold takeE at h
  rw [if_neg (by simpa using hh), if_pos (by omega)] at h
  cases h
theorem frest_size {b : ByteArray} (h : takeE b = 0) : (frest b).size + 4 ≤ b.size := by
  obtain ⟨_, h1, h2, _⟩ := takeE_ok h
  have := hlen_nonneg b
  unfold frest
  rw [ByteArray.size_extract]
  omega
/-- A frame. -/
structure Fr where
  kind : Int
  flags : Int
  body : ByteArray
def Fr.cells (f : Fr) : List Value := [.int .i64 f.kind, .int .i64 f.flags, .string f.body]
def frs (l : List Fr) : List Value := l.flatMap Fr.cells
theorem frs_snoc (l : List Fr) (f : Fr) : frs (l ++ [f]) = frs l ++ f.cells := by simp [frs]
def ftop (b : ByteArray) : Fr := ⟨byt b 0, byt b 1, fbody b⟩
/-- The frames of bytes, what is left, and what is wrong. -/
def feedF : Nat → ByteArray → List Fr × ByteArray × Int
  | 0, r => ([], r, 0)
  | n + 1, r => if takeE r = 0 then (ftop r :: (feedF n (frest r)).1, (feedF n (frest r)).2) else if takeE r = 2 then ([], r, 0) else ([], ByteArray.empty, takeE r)
def feed (r : ByteArray) : List Fr × ByteArray × Int := feedF (r.size + 1) r
theorem feedF_fuel : ∀ (n m : Nat) (r : ByteArray), r.size < n → r.size < m → feedF n r = feedF m r
  | 0, _, r, h, _ => by omega
  | _ + 1, 0, r, _, h => by omega
  | n + 1, m + 1, r, h, k => by
    unfold feedF
    by_cases ht : takeE r = 0
    · have := frest_size ht
      rw [if_pos ht, if_pos ht, feedF_fuel n m (frest r) (by omega) (by omega)]
    · rw [if_neg ht, if_neg ht]
theorem feed_ok {r : ByteArray} (h : takeE r = 0) : feed r = (ftop r :: (feed (frest r)).1, (feed (frest r)).2) := by
  have := frest_size h
  show feedF (r.size + 1) r = _
  unfold feedF
  rw [if_pos h, feedF_fuel r.size ((frest r).size + 1) (frest r) (by omega) (by omega)]
  rfl
theorem feed_short {r : ByteArray} (h : takeE r = 2) : feed r = ([], r, 0) := by
  show feedF (r.size + 1) r = _
  unfold feedF
  rw [if_neg (by omega), if_pos h]
theorem feed_bad {r : ByteArray} (h : takeE r ≠ 0) (h2 : takeE r ≠ 2) : feed r = ([], ByteArray.empty, takeE r) := by
  show feedF (r.size + 1) r = _
  unfold feedF
  rw [if_neg h, if_neg h2]
theorem feed_length : ∀ (n : Nat) (r : ByteArray), r.size ≤ n → (feed r).1.length * 4 ≤ r.size := by
  intro n
  induction n with
  | zero =>
    intro r h
    by_cases ht : takeE r = 0
    · have := frest_size ht; omega
    · by_cases h2 : takeE r = 2
      · rw [feed_short h2]; simp
      · rw [feed_bad ht h2]; simp
  | succ n ih =>
    intro r h
    by_cases ht : takeE r = 0
    · have h1 := frest_size ht
      have := ih (frest r) (by omega)
      rw [feed_ok ht]
      simp only [List.length_cons]
      omega
    · by_cases h2 : takeE r = 2
      · rw [feed_short h2]; simp
      · rw [feed_bad ht h2]; simp
end Go.Proofs.YtmimhgngbpancaaGreatDoor
