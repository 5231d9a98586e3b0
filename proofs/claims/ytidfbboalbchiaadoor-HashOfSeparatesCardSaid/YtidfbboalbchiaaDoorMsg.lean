/- A message that is hashed block by block: the state after its whole blocks, its padding, its hash. Plain functions on lists of bytes. No conditions beyond those of each theorem. -/
import Derived.Test.YtidfbboalbchiaaDoorSha
namespace Go.Proofs.YtidfbboalbchiaaDoor

/-- The state after k blocks. -/
def hst : Nat → S8 → List UInt8 → S8
  | 0, s, _ => s
  | k + 1, s, m => hst k (compress s (m.take 64)) (m.drop 64)
theorem hst_append (k : Nat) : ∀ (s : S8) (m x : List UInt8), 64 * k ≤ m.length → hst k s (m ++ x) = hst k s m := by
  induction k with
  | zero => intro s m x _; rfl
  | succ k ih =>
    intro s m x h
    unfold hst
    rw [List.take_append_of_le_length (by omega), List.drop_append_of_le_length (by omega)]
    exact ih _ _ _ (by simp; omega)
theorem hst_succ (k : Nat) : ∀ (s : S8) (m : List UInt8), hst (k + 1) s m = compress (hst k s m) ((m.drop (64 * k)).take 64) := by
  induction k with
  | zero => intro s m; rfl
  | succ k ih =>
    intro s m
    rw [hst, ih, hst, List.drop_drop, show 64 + 64 * k = 64 * (k + 1) by omega]
/-- The state of a message: after its whole blocks. -/
def state (m : List UInt8) : S8 := hst (m.length / 64) s8init m
/-- What is behind the whole blocks. -/
def tail (m : List UInt8) : List UInt8 := m.drop (64 * (m.length / 64))
theorem length_tail (m : List UInt8) : (tail m).length = m.length % 64 := by simp [tail]; omega
/-- A stream's block: its begin is the message's tail. -/
def IsBlk (m blk : List UInt8) : Prop := blk.length = 64 ∧ blk.take (m.length % 64) = tail m
/-- The block while x is laid behind the tail. -/
def lay (blk x : List UInt8) (p : Nat) : List UInt8 := blk.take p ++ x ++ blk.drop (p + x.length)
theorem length_lay (blk x : List UInt8) (p : Nat) (h : p + x.length ≤ blk.length) : (lay blk x p).length = blk.length := by simp [lay]; omega
theorem step_part {m blk x : List UInt8} (hb : IsBlk m blk) (hx : m.length % 64 + x.length < 64) : state (m ++ x) = state m ∧ IsBlk (m ++ x) (lay blk x (m.length % 64)) := by
  obtain ⟨hl, ht⟩ := hb
  have hq : (m ++ x).length / 64 = m.length / 64 := by simp; omega
  have hr : (m ++ x).length % 64 = m.length % 64 + x.length := by simp; omega
  refine ⟨by unfold state; rw [hq, hst_append _ _ _ _ (by omega)], by rw [length_lay _ _ _ (by omega), hl], ?_⟩
  unfold tail lay
  rw [hr, hq, List.drop_append_of_le_length (by omega)]
  have e : (blk.take (m.length % 64) ++ x).length = m.length % 64 + x.length := by simp; omega
  rw [← e, List.take_left, ht]
  rfl
theorem step_full {m blk x : List UInt8} (hb : IsBlk m blk) (hx : m.length % 64 + x.length = 64) : state (m ++ x) = compress (state m) (lay blk x (m.length % 64)) ∧ IsBlk (m ++ x) (lay blk x (m.length % 64)) := by
  obtain ⟨hl, ht⟩ := hb
  have hq : (m ++ x).length / 64 = m.length / 64 + 1 := by simp; omega
  have hr : (m ++ x).length % 64 = 0 := by simp; omega
  have el : lay blk x (m.length % 64) = tail m ++ x := by
    unfold lay
    rw [ht, hx, List.drop_of_length_le (by omega), List.append_nil]
  refine ⟨?_, by rw [length_lay _ _ _ (by omega), hl], ?_⟩
  · unfold state
    rw [hq, hst_succ, hst_append _ _ _ _ (by omega), List.drop_append_of_le_length (by omega), el]
    have e : (m.drop (64 * (m.length / 64)) ++ x).length = 64 := by simp; omega
    rw [List.take_of_length_le (by omega)]
    rfl
  · rw [hr]
    unfold tail
    rw [hq, List.drop_of_length_le (by simp; omega)]
    rfl

/-- The eight bytes of a length. -/
def len8 (n : Nat) : List UInt8 := (List.range 8).map fun i => UInt8.ofNat (n / 2 ^ (56 - 8 * i) % 256)
/-- How many zero bytes. -/
def zeros (n : Nat) : Nat := (119 - n % 64) % 64
def padding (n : Nat) : List UInt8 := 128 :: List.replicate (zeros n) 0 ++ len8 (8 * n)
/-- A state's bytes. -/
def outB (s : S8) (i : Nat) : UInt8 := ((s.list.getD (i / 4) 0) >>> UInt32.ofNat (24 - 8 * (i % 4))).toUInt8
def out32 (s : S8) : List UInt8 := (List.range 32).map (outB s)
theorem length_out32 (s : S8) : (out32 s).length = 32 := by simp [out32]
/-- The hash of a message. -/
def sha (m : List UInt8) : List UInt8 := out32 (state (m ++ padding m.length))
theorem length_sha (m : List UInt8) : (sha m).length = 32 := length_out32 _
/-- The authentication code. -/
def key64 (key : List UInt8) (x : UInt8) : List UInt8 := ((if key.length > 64 then sha key else key) ++ List.replicate (64 - (if key.length > 64 then sha key else key).length) 0).map (· ^^^ x)
def mac (key text : List UInt8) : List UInt8 := sha (key64 key 92 ++ sha (key64 key 54 ++ text))
end Go.Proofs.YtidfbboalbchiaaDoor
