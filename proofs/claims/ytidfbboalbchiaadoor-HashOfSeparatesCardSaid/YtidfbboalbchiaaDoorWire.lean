/- The encodings of package wire, as plain functions: an integer, a byte string, a list of integers. No program and no memory in it. Conditions: those that each theorem names. -/
namespace Go.Proofs.YtidfbboalbchiaaDoor

/-- How many bytes a number takes. -/
def nbF : Nat → Nat → Nat
  | 0, _ => 0
  | f + 1, m => if m = 0 then 0 else nbF f (m / 256) + 1
def nb (m : Nat) : Nat := nbF 8 m
theorem nbF_le : ∀ (f m : Nat), nbF f m ≤ f
  | 0, _ => Nat.le_refl _
  | f + 1, m => by
    unfold nbF
    split
    · omega
    · have := nbF_le f (m / 256); omega
theorem nbF_lt : ∀ (f m : Nat), m < 256 ^ f → m < 256 ^ (nbF f m)
  | 0, m, h => by simpa [nbF] using h
  | f + 1, m, h => by
    unfold nbF
    split
    · rename_i h0; subst h0; decide
    · have h1 : m / 256 < 256 ^ f := by rw [Nat.pow_succ] at h; exact Nat.div_lt_of_lt_mul (by rw [Nat.mul_comm]; exact h)
      have := nbF_lt f (m / 256) h1
      rw [Nat.pow_succ]
      omega
theorem nbF_ge : ∀ (f m : Nat), 0 < nbF f m → 256 ^ (nbF f m - 1) ≤ m
  | 0, m, h => by simp [nbF] at h
  | f + 1, m, h => by
    unfold nbF at h ⊢
    split
    · rename_i h0; rw [if_pos h0] at h; omega
    · rename_i h0
      by_cases hz : nbF f (m / 256) = 0
      · rw [hz]; simp; omega
      · have := nbF_ge f (m / 256) (by omega)
        rw [show nbF f (m / 256) + 1 - 1 = (nbF f (m / 256) - 1) + 1 by omega, Nat.pow_succ]
        omega
theorem nb_le (m : Nat) : nb m ≤ 8 := nbF_le 8 m
theorem nb_lt (m : Nat) (h : m < 18446744073709551616) : m < 256 ^ (nb m) := nbF_lt 8 m (by simpa using h)
theorem nb_ge (m : Nat) (h : 0 < nb m) : 256 ^ (nb m - 1) ≤ m := nbF_ge 8 m h
theorem nb_le_of (m k : Nat) (h : m < 256 ^ k) : nb m ≤ k := by
  rcases Nat.lt_or_ge k (nb m) with h1 | h1
  · have h2 := nb_ge m (by omega)
    have h3 : 256 ^ k ≤ 256 ^ (nb m - 1) := Nat.pow_le_pow_right (by decide) (by omega)
    omega
  · exact h1
theorem nb_ge_of (m k : Nat) (hm : m < 18446744073709551616) (h : 256 ^ k ≤ m) : k < nb m := by
  rcases Nat.lt_or_ge k (nb m) with h1 | h1
  · exact h1
  · have h2 := nb_lt m hm
    have h3 : 256 ^ nb m ≤ 256 ^ k := Nat.pow_le_pow_right (by decide) h1
    omega
/-- The magnitude that is encoded, and the flip of its bytes. -/
def mag (n : Int) : Nat := if n < 0 then (-1 - n).toNat else n.toNat
def flip (n : Int) : UInt8 := if n < 0 then 255 else 0
def digs (m : Nat) (fl : UInt8) : List UInt8 := (List.range (nb m)).map fun i => UInt8.ofNat (m / 256 ^ (nb m - 1 - i) % 256) ^^^ fl
/-- wire.Int. -/
def encI (n : Int) : List UInt8 := (UInt8.ofNat (128 + nb (mag n)) ^^^ flip n) :: digs (mag n) (flip n)
theorem length_digs (m : Nat) (fl : UInt8) : (digs m fl).length = nb m := by simp [digs]
theorem length_encI (n : Int) : (encI n).length = 1 + nb (mag n) := by simp [encI, length_digs]; omega
theorem length_encI_le (n : Int) : (encI n).length ≤ 9 := by rw [length_encI]; have := nb_le (mag n); omega
theorem digs_take (m : Nat) (fl : UInt8) (j : Nat) (h : j < nb m) : (digs m fl).take (j + 1) = (digs m fl).take j ++ [UInt8.ofNat (m / 256 ^ (nb m - 1 - j) % 256) ^^^ fl] := by
  rw [List.take_succ_eq_append_getElem (by rw [length_digs]; exact h)]
  simp [digs]
/-- wire.Bytes. -/
def encB (s : List UInt8) : List UInt8 := encI s.length ++ s
/-- wire.Ints. -/
def encL (l : List Int) : List UInt8 := encI l.length ++ (l.map encI).flatten
end Go.Proofs.YtidfbboalbchiaaDoor
