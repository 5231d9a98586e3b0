/- Part 5 of the texts that a claim's last texts stand on: Sgn, A44, A45, App, Lit, A46. Conditions: those that each theorem names. -/
import Derived.Test.YtidfbboalbchiaaDoorT4
namespace Go.Proofs.YtidfbboalbchiaaDoor
open Go Go.RowKit

/-! ### Digits -/
/-- A digit of a digest. -/
def dgt (d : List UInt8) (i : Nat) : Nat := (d.getD (i / 4) 0).toNat / 4 ^ (3 - i % 4) % 4
/-- The sum of what the first digits lack. -/
def sumD (d : List UInt8) : Nat → Nat
  | 0 => 0
  | n + 1 => sumD d n + (3 - dgt d n)
/-- A digit of a digest and of its checksum. -/
def dig (d : List UInt8) (i : Nat) : Nat := if i < 64 then dgt d i else sumD d 64 / 4 ^ (67 - i) % 4
def digI (d : List UInt8) : List Int := (List.range 68).map fun i => (dig d i : Int)
theorem dgt_lt (d : List UInt8) (i : Nat) : dgt d i < 4 := Nat.mod_lt _ (by decide)
theorem dig_lt (d : List UInt8) (i : Nat) : dig d i < 4 := by
  unfold dig
  split
  · exact dgt_lt d i
  · exact Nat.mod_lt _ (by decide)
theorem sumD_le (d : List UInt8) : ∀ n, sumD d n ≤ 3 * n
  | 0 => Nat.le_refl _
  | n + 1 => by have := sumD_le d n; unfold sumD; omega
theorem length_digI (d : List UInt8) : (digI d).length = 68 := by simp [digI]
theorem digI_get (d : List UInt8) (i : Nat) (h : i < 68) : (digI d)[i]? = some ((dig d i : Nat) : Int) := by simp [digI, h]
/-- Different digests differ in a digit. -/
theorem byte_digits (x y : UInt8) (h : ∀ r, r < 4 → x.toNat / 4 ^ (3 - r) % 4 = y.toNat / 4 ^ (3 - r) % 4) : x = y := by
  have h0 := h 0 (by decide)
  have h1 := h 1 (by decide)
  have h2 := h 2 (by decide)
  have h3 := h 3 (by decide)
  have hx := x.toNat_lt
  have hy := y.toNat_lt
  simp only [show (4 : Nat) ^ (3 - 0) = 64 from rfl, show (4 : Nat) ^ (3 - 1) = 16 from rfl, show (4 : Nat) ^ (3 - 2) = 4 from rfl, show (4 : Nat) ^ (3 - 3) = 1 from rfl] at h0 h1 h2 h3
  apply UInt8.toNat.inj
  omega
theorem digits_ne {a b : List UInt8} (ha : a.length = 16) (hb : b.length = 16) (h : ∀ i, i < 64 → dgt a i = dgt b i) : a = b := by
  apply List.ext_getElem (by omega)
  intro j hj hj'
  apply byte_digits
  intro r hr
  have := h (4 * j + r) (by omega)
  unfold dgt at this
  rw [show (4 * j + r) / 4 = j by omega, show (4 * j + r) % 4 = r by omega] at this
  simpa [List.getD_eq_getElem?_getD, hj, hj'] using this
theorem sumD_mono {a b : List UInt8} : ∀ n, (∀ i, i < n → dgt b i ≤ dgt a i) → sumD a n ≤ sumD b n ∧ ((∃ i, i < n ∧ dgt a i ≠ dgt b i) → sumD a n < sumD b n)
  | 0, _ => ⟨Nat.le_refl _, fun ⟨i, h, _⟩ => by omega⟩
  | n + 1, h => by
    obtain ⟨h1, h2⟩ := sumD_mono (a := a) (b := b) n fun i hi => h i (by omega)
    have h3 := h n (by omega)
    have h4 := dgt_lt a n
    have h5 := dgt_lt b n
    unfold sumD
    refine ⟨by omega, fun ⟨i, hi, hne⟩ => ?_⟩
    by_cases hin : i = n
    · subst hin; omega
    · have := h2 ⟨i, by omega, hne⟩
      omega
theorem base4 (s : Nat) (h : s < 256) : s = 64 * (s / 64 % 4) + 16 * (s / 16 % 4) + 4 * (s / 4 % 4) + s / 1 % 4 := by omega
/-- Of two different digests, the first one has a digit that is less. -/
theorem digits_less {a b : List UInt8} (ha : a.length = 16) (hb : b.length = 16) (hne : a ≠ b) : ∃ i, i < 68 ∧ dig a i < dig b i := by
  apply Classical.byContradiction
  intro hno
  have hall : ∀ i, i < 68 → dig b i ≤ dig a i := fun i hi => Nat.le_of_not_lt fun hlt => hno ⟨i, hi, hlt⟩
  have h64 : ∀ i, i < 64 → dgt b i ≤ dgt a i := fun i hi => by
    have := hall i (by omega)
    unfold dig at this
    rwa [if_pos hi, if_pos hi] at this
  have hd : ∃ i, i < 64 ∧ dgt a i ≠ dgt b i := by
    apply Classical.byContradiction
    intro h
    exact hne (digits_ne ha hb fun i hi => Classical.byContradiction fun hc => h ⟨i, hi, hc⟩)
  have hs := (sumD_mono 64 h64).2 hd
  have ha' := sumD_le a 64
  have hb' := sumD_le b 64
  have k0 := hall 64 (by decide)
  have k1 := hall 65 (by decide)
  have k2 := hall 66 (by decide)
  have k3 := hall 67 (by decide)
  unfold dig at k0 k1 k2 k3
  simp only [show ¬ (64 < 64) by decide, show ¬ (65 < 64) by decide, show ¬ (66 < 64) by decide, show ¬ (67 < 64) by decide, if_false, show (4 : Nat) ^ (67 - 64) = 64 from rfl, show (4 : Nat) ^ (67 - 65) = 16 from rfl, show (4 : Nat) ^ (67 - 66) = 4 from rfl, show (4 : Nat) ^ (67 - 67) = 1 from rfl] at k0 k1 k2 k3
  have b1 := base4 (sumD a 64) (by omega)
  have b2 := base4 (sumD b 64) (by omega)
  omega

/-! ### Chains, keys, trees -/
/-- The value of a chain, some steps on. -/
def adv (x c : Int) (f : Nat) : Nat → List UInt8 → List UInt8
  | 0, v => v
  | n + 1, v => ofD 5 [encL [x, c, ((f + n : Nat) : Int)], adv x c f n v]
theorem adv_add (x c : Int) (f n : Nat) (v : List UInt8) : ∀ k, adv x c f (n + k) v = adv x c (f + n) k (adv x c f n v)
  | 0 => rfl
  | k + 1 => by
    show adv x c f ((n + k) + 1) v = _
    unfold adv
    rw [adv_add x c f n v k, Nat.add_assoc]
theorem length_adv (x c : Int) (f n : Nat) (v : List UInt8) (hv : v.length = 16) : (adv x c f n v).length = 16 := by
  cases n with
  | zero => exact hv
  | succ n => exact length_ofD _ _
def chainB : List UInt8 := [99, 104, 97, 105, 110]
/-- The value of a chain at height 0. -/
def startS (seed : List UInt8) (x c : Int) : List UInt8 := (mac seed (chainB ++ encL [x, c])).take 16
theorem length_mac (k t : List UInt8) : (mac k t).length = 32 := length_sha _
@[simp] theorem length_startS (seed : List UInt8) (x c : Int) : (startS seed x c).length = 16 := by simp [startS, length_mac]
/-- The lowest node, of the values of all chains. -/
def leafV (f : Nat → List UInt8) : List UInt8 := ofD 1 [ofD 3 [((List.range 68).map f).flatten]]
@[simp] theorem length_leafV (f : Nat → List UInt8) : (leafV f).length = 16 := length_ofD _ _
theorem leafV_congr {f g : Nat → List UInt8} (h : ∀ c, c < 68 → f c = g c) : leafV f = leafV g := by
  unfold leafV
  rw [List.map_congr_left fun c hc => h c (List.mem_range.1 hc)]
/-- A node of a signer's tree. -/
def nodeAt (seed : List UInt8) : Nat → Nat → List UInt8
  | 0, k => leafV fun c => adv k c 0 3 (startS seed k c)
  | l + 1, k => nodeS (nodeAt seed l (2 * k)) (nodeAt seed l (2 * k + 1))
@[simp] theorem length_nodeAt (seed : List UInt8) (l k : Nat) : (nodeAt seed l k).length = 16 := by
  cases l with
  | zero => exact length_leafV _
  | succ l => exact length_nodeS _ _
/-- The other child of a node's parent. -/
def sib (k : Nat) : Nat := if k % 2 = 1 then k - 1 else k + 1
/-- What is signed. -/
def digestS (p : List UInt8) (i : Int) (m : List UInt8) : List UInt8 := ofD 4 [p, encI i, m]
@[simp] theorem length_digestS (p : List UInt8) (i : Int) (m : List UInt8) : (digestS p i m).length = 16 := length_ofD _ _
/-- A signature's values. -/
def sigV (seed : List UInt8) (x : Nat) (d : List UInt8) (c : Nat) : List UInt8 := adv x c 0 (dig d c) (startS seed x c)
theorem length_sigV (seed : List UInt8) (x : Nat) (d : List UInt8) (c : Nat) : (sigV seed x d c).length = 16 := length_adv _ _ _ _ _ (by simp)
def sigVs (seed : List UInt8) (x : Nat) (d : List UInt8) : List (List UInt8) := (List.range 68).map (sigV seed x d)
/-- The nodes beside the path. -/
def sigP (seed : List UInt8) (h x : Nat) : List (List UInt8) := (List.range h).map fun l => nodeAt seed l (sib (x / 2 ^ l))
def signS (seed : List UInt8) (h x : Nat) (m : List UInt8) : List UInt8 :=
  encI x ++ ((sigVs seed x (digestS (nodeAt seed h 0) x m)).flatten ++ (sigP seed h x).flatten)
/-- What Public answers. -/
def pubR (seed : List UInt8) (h : Int) : List UInt8 × Int := if seed.length ≠ 32 ∨ h < 0 ∨ h > 6 then (zD, 1) else (nodeAt seed h.toNat 0, 0)
/-- What Sign answers. -/
def sigR (seed : List UInt8) (h i : Int) (m : List UInt8) : List UInt8 × Int :=
  if seed.length ≠ 32 ∨ h < 0 ∨ h > 6 then ([], 1) else if i < 0 ∨ i ≥ ((2 ^ h.toNat : Nat) : Int) then ([], 22) else if m.length > 1048576 then ([], 4) else (signS seed h.toNat i.toNat m, 0)
theorem length_pubR (seed : List UInt8) (h : Int) : (pubR seed h).1.length = 16 := by
  unfold pubR
  split
  · simp [zD]
  · simp

/-! ### Decoding an integer -/
def flB (b : UInt8) : UInt8 := if b < 128 then 255 else 0
def kB (b : UInt8) : Nat := (b ^^^ flB b).toNat - 128
theorem fl_ge (b : UInt8) : 128 ≤ (b ^^^ flB b).toNat := by
  have h : ∀ n, n < 256 → 128 ≤ (UInt8.ofNat n ^^^ flB (UInt8.ofNat n)).toNat := by decide +kernel
  have := h b.toNat b.toNat_lt
  rwa [UInt8.ofNat_toNat] at this
/-- wire.GetInt: the number, how many bytes, the error. -/
def getI : List UInt8 → Int × Nat × Int
  | [] => (0, 0, 3)
  | b :: r =>
    if kB b > 8 then (0, 0, 2) else if r.length < kB b then (0, 0, 3) else if 0 < kB b ∧ r.getD 0 0 ^^^ flB b = 0 then (0, 0, 2)
    else if 9223372036854775808 ≤ val ((r.take (kB b)).map (· ^^^ flB b)) then (0, 0, 2)
    else (if b < 128 then -1 - (val ((r.take (kB b)).map (· ^^^ flB b)) : Int) else val ((r.take (kB b)).map (· ^^^ flB b)), kB b + 1, 0)
theorem val_go (l : List UInt8) : ∀ a : Nat, l.foldl (fun acc x => acc * 256 + x.toNat) a = a * 256 ^ l.length + val l := by
  induction l with
  | nil => intro a; simp [val]
  | cons x l ih =>
    intro a
    unfold val
    simp only [List.foldl_cons, List.length_cons]
    rw [ih, ih (0 * 256 + x.toNat), Nat.pow_succ]
    have e : (a * 256 + x.toNat) * 256 ^ l.length = a * (256 ^ l.length * 256) + x.toNat * 256 ^ l.length := by rw [Nat.add_mul, Nat.mul_assoc, Nat.mul_comm 256]
    rw [e, Nat.zero_mul, Nat.zero_add, Nat.add_assoc]
theorem val_cons (x : UInt8) (l : List UInt8) : val (x :: l) = x.toNat * 256 ^ l.length + val l := by
  have := val_go l (0 * 256 + x.toNat)
  rw [Nat.zero_mul, Nat.zero_add] at this
  rw [← this]
  simp [val]
theorem val_lt : ∀ l : List UInt8, val l < 256 ^ l.length
  | [] => by simp [val]
  | x :: l => by
    have h := val_lt l
    have hx : x.toNat < 256 := x.toNat_lt
    rw [val_cons, List.length_cons, Nat.pow_succ]
    have : (x.toNat + 1) * 256 ^ l.length ≤ 256 * 256 ^ l.length := Nat.mul_le_mul_right _ (by omega)
    rw [Nat.add_mul] at this
    omega
theorem val_app (l r : List UInt8) : val (l ++ r) = val l * 256 ^ r.length + val r := by
  unfold val
  rw [List.foldl_append, val_go]
  rfl
theorem val_digit (l : List UInt8) (i : Nat) (h : i < l.length) : val l / 256 ^ (l.length - 1 - i) % 256 = (l[i]).toNat := by
  have e : l = (l.take i ++ [l[i]]) ++ l.drop (i + 1) := by simp
  have hd : (l.drop (i + 1)).length = l.length - 1 - i := by simp; omega
  have h1 : val l = (val (l.take i) * 256 + (l[i]).toNat) * 256 ^ (l.length - 1 - i) + val (l.drop (i + 1)) := by
    conv => lhs; rw [e]
    rw [val_app, val_append, hd]
  have h2 := val_lt (l.drop (i + 1))
  rw [hd] at h2
  have hp : 0 < 256 ^ (l.length - 1 - i) := Nat.pow_pos (by decide)
  rw [h1, Nat.mul_comm, Nat.mul_add_div hp, Nat.div_eq_of_lt h2, Nat.add_zero]
  have hx : (l[i]).toNat < 256 := (l[i]).toNat_lt
  omega
/-- The digits of a number that some bytes are. -/
theorem nb_val (l : List UInt8) (h8 : l.length ≤ 8) (h0 : ∀ x r, l = x :: r → x ≠ 0) : nb (val l) = l.length := by
  have hlt := val_lt l
  have hle := nb_le_of (val l) l.length hlt
  cases l with
  | nil => simpa using hle
  | cons x r =>
    have hx : 0 < x.toNat := by
      have := h0 x r rfl
      rcases Nat.eq_zero_or_pos x.toNat with h | h
      · exact absurd (UInt8.toNat.inj (by simpa using h)) this
      · exact h
    have hge : 256 ^ r.length ≤ val (x :: r) := by
      rw [val_cons]
      have : 1 * 256 ^ r.length ≤ x.toNat * 256 ^ r.length := Nat.mul_le_mul_right _ hx
      omega
    have h2 : val (x :: r) < 18446744073709551616 := by
      have : (256 : Nat) ^ (x :: r).length ≤ 256 ^ 8 := Nat.pow_le_pow_right (by decide) h8
      have e : (256 : Nat) ^ 8 = 18446744073709551616 := by decide
      omega
    have := nb_ge_of (val (x :: r)) r.length h2 hge
    simp only [List.length_cons] at hle ⊢
    omega
theorem nb_val_lt (x : UInt8) (r : List UInt8) (h0 : x = 0) : nb (val (x :: r)) ≤ r.length := by
  subst h0
  have h := val_lt r
  apply nb_le_of
  rw [val_cons]
  simpa using h
theorem xor_xor8 (x y : UInt8) : x ^^^ y ^^^ y = x := by rw [UInt8.xor_assoc, UInt8.xor_self, UInt8.xor_zero]
theorem digs_val (l : List UInt8) (fl : UInt8) (h8 : l.length ≤ 8) (h0 : ∀ x r, l.map (· ^^^ fl) = x :: r → x ≠ 0) : digs (val (l.map (· ^^^ fl))) fl = l := by
  have hn := nb_val (l.map (· ^^^ fl)) (by simpa using h8) h0
  rw [List.length_map] at hn
  apply List.ext_getElem (by rw [length_digs, hn])
  intro i hi hi'
  have hd := val_digit (l.map (· ^^^ fl)) i (by simpa using hi')
  simp only [List.length_map, List.getElem_map] at hd
  unfold digs
  simp only [List.getElem_map, List.getElem_range, hn, hd]
  rw [UInt8.ofNat_toNat, xor_xor8]

/-! ### Accepting a signature -/
def chunk (r : List UInt8) (k : Nat) : List UInt8 := (r.drop (16 * k)).take 16
theorem length_chunk (r : List UInt8) (k : Nat) (h : 16 * k + 16 ≤ r.length) : (chunk r k).length = 16 := by simp [chunk]; omega
/-- The nodes of the path up. -/
def climb (r : List UInt8) (x : Nat) (v : List UInt8) : Nat → List UInt8
  | 0 => v
  | l + 1 => if x / 2 ^ l % 2 = 1 then nodeS (chunk r (68 + l)) (climb r x v l) else nodeS (climb r x v l) (chunk r (68 + l))
theorem length_climb (r : List UInt8) (x : Nat) (v : List UInt8) (hv : v.length = 16) (l : Nat) : (climb r x v l).length = 16 := by
  cases l with
  | zero => exact hv
  | succ l => unfold climb; split <;> exact length_nodeS _ _
def verV (d : List UInt8) (x : Nat) (r : List UInt8) (c : Nat) : List UInt8 := adv x c (dig d c) (3 - dig d c) (chunk r c)
def rootV (p : List UInt8) (h x : Nat) (m r : List UInt8) : List UInt8 := climb r x (leafV (verV (digestS p x m) x r)) h
def verR (p : List UInt8) (h : Int) (m s : List UInt8) : Int × Int :=
  if h < 0 ∨ h > 6 then (0, 1) else if m.length > 1048576 then (0, 4) else if (getI s).2.2 ≠ 0 then (0, (getI s).2.2)
  else if (getI s).1 < 0 ∨ (getI s).1 ≥ ((2 ^ h.toNat : Nat) : Int) ∨ (s.drop (getI s).2.1).length ≠ (68 + h.toNat) * 16 then (0, 2)
  else if rootV p h.toNat (getI s).1.toNat m (s.drop (getI s).2.1) ≠ p then (0, 10) else ((getI s).1, 0)

/-- Rows of parts of 16 bytes. -/
theorem length_parts : ∀ l : List (List UInt8), (∀ d ∈ l, d.length = 16) → l.flatten.length = 16 * l.length
  | [], _ => rfl
  | d :: l, h => by
    have := length_parts l fun x hx => h x (List.mem_cons_of_mem _ hx)
    have hd := h d (List.mem_cons_self ..)
    simp only [List.flatten_cons, List.length_append, List.length_cons]
    omega
theorem drop_parts : ∀ (l : List (List UInt8)) (k : Nat), (∀ d ∈ l, d.length = 16) → k ≤ l.length → l.flatten.drop (16 * k) = (l.drop k).flatten
  | l, 0, _, _ => by simp
  | [], k + 1, _, hk => by simp at hk
  | d :: l, k + 1, h, hk => by
    have hd := h d (List.mem_cons_self ..)
    rw [List.flatten_cons, show 16 * (k + 1) = 16 + 16 * k by omega, ← List.drop_drop, List.drop_left' hd]
    exact drop_parts l k (fun x hx => h x (List.mem_cons_of_mem _ hx)) (by simpa using hk)
theorem chunk_parts (l : List (List UInt8)) (h : ∀ d ∈ l, d.length = 16) (k : Nat) (hk : k < l.length) : chunk l.flatten k = l[k] := by
  unfold chunk
  rw [drop_parts l k h (by omega), List.drop_eq_getElem_cons hk, List.flatten_cons, List.take_left' (h _ (List.getElem_mem hk))]

/-- A signature's parts. -/
def sigL (seed : List UInt8) (h x : Nat) (m : List UInt8) : List (List UInt8) := sigVs seed x (digestS (nodeAt seed h 0) x m) ++ sigP seed h x
theorem sigL_16 (seed : List UInt8) (h x : Nat) (m : List UInt8) : ∀ d ∈ sigL seed h x m, d.length = 16 := by
  intro d hd
  rcases List.mem_append.1 hd with hd | hd
  · obtain ⟨c, _, rfl⟩ := List.mem_map.1 hd
    exact length_sigV _ _ _ _
  · obtain ⟨l, _, rfl⟩ := List.mem_map.1 hd
    exact length_nodeAt _ _ _
theorem length_sigL (seed : List UInt8) (h x : Nat) (m : List UInt8) : (sigL seed h x m).length = 68 + h := by simp [sigL, sigVs, sigP]
theorem signS_eq (seed : List UInt8) (h x : Nat) (m : List UInt8) : signS seed h x m = encI x ++ (sigL seed h x m).flatten := by
  unfold signS sigL
  rw [List.flatten_append]
theorem length_body (seed : List UInt8) (h x : Nat) (m : List UInt8) : (sigL seed h x m).flatten.length = (68 + h) * 16 := by
  rw [length_parts _ (sigL_16 _ _ _ _), length_sigL]; omega
theorem chunk_val (seed : List UInt8) (h x : Nat) (m : List UInt8) (c : Nat) (hc : c < 68) : chunk (sigL seed h x m).flatten c = sigV seed x (digestS (nodeAt seed h 0) x m) c := by
  rw [chunk_parts _ (sigL_16 _ _ _ _) c (by rw [length_sigL]; omega)]
  have h1 : c < (sigVs seed x (digestS (nodeAt seed h 0) x m)).length := by simpa [sigVs] using hc
  simp only [sigL, List.getElem_append_left h1]
  simp [sigVs]
theorem chunk_path (seed : List UInt8) (h x : Nat) (m : List UInt8) (l : Nat) (hl : l < h) : chunk (sigL seed h x m).flatten (68 + l) = nodeAt seed l (sib (x / 2 ^ l)) := by
  rw [chunk_parts _ (sigL_16 _ _ _ _) _ (by rw [length_sigL]; omega)]
  have h1 : (sigVs seed x (digestS (nodeAt seed h 0) x m)).length = 68 := by simp [sigVs]
  simp only [sigL]
  rw [List.getElem_append_right (by omega)]
  simp [sigP, h1]
/-- The values of a signature lead to the leaf. -/
theorem leaf_sign (seed : List UInt8) (h x : Nat) (m : List UInt8) : leafV (verV (digestS (nodeAt seed h 0) x m) x (sigL seed h x m).flatten) = nodeAt seed 0 x := by
  show _ = leafV fun c => adv x c 0 3 (startS seed x c)
  apply leafV_congr
  intro c hc
  unfold verV
  rw [chunk_val seed h x m c hc]
  unfold sigV
  have hd := dig_lt (digestS (nodeAt seed h 0) x m) c
  have := adv_add x c 0 (dig (digestS (nodeAt seed h 0) x m) c) (startS seed x c) (3 - dig (digestS (nodeAt seed h 0) x m) c)
  rw [Nat.zero_add] at this
  rw [← this]
  congr 1
  omega
theorem climb_sign (seed : List UInt8) (r : List UInt8) (x h : Nat) (hr : ∀ l, l < h → chunk r (68 + l) = nodeAt seed l (sib (x / 2 ^ l))) : ∀ l, l ≤ h → climb r x (nodeAt seed 0 x) l = nodeAt seed l (x / 2 ^ l)
  | 0, _ => by simp [climb]
  | l + 1, hl => by
    have ih := climb_sign seed r x h hr l (by omega)
    unfold climb
    rw [ih, hr l (by omega)]
    have e : x / 2 ^ (l + 1) = x / 2 ^ l / 2 := by rw [Nat.pow_succ, Nat.div_div_eq_div_mul]
    rw [e]
    generalize x / 2 ^ l = y
    unfold nodeAt sib
    split
    · rw [show y - 1 = 2 * (y / 2) by omega, show 2 * (y / 2) + 1 = y by omega]
      cases l <;> rfl
    · rw [show 2 * (y / 2) = y by omega]
      cases l <;> rfl
/-- What is signed is accepted. -/
theorem rootV_sign (seed : List UInt8) (h x : Nat) (m : List UInt8) (hx : x < 2 ^ h) : rootV (nodeAt seed h 0) h x m (sigL seed h x m).flatten = nodeAt seed h 0 := by
  unfold rootV
  rw [leaf_sign, climb_sign seed _ x h (fun l hl => chunk_path seed h x m l hl) h (Nat.le_refl _), Nat.div_eq_of_lt hx]
/-- A small index is read as it was written. -/
theorem getI_small (x : Nat) (hx : x < 64) (r : List UInt8) : getI (encI x ++ r) = ((x : Int), (encI x).length, 0) := by
  rw [encI_nat]
  rcases Nat.eq_zero_or_pos x with h | h
  · subst h
    have e : UInt8.ofNat (128 + nb 0) :: digs 0 0 = [128] := by decide
    rw [e]
    simp only [List.cons_append, List.nil_append, getI]
    have hk : kB 128 = 0 := by decide
    simp [hk, val]
  · have e : UInt8.ofNat (128 + nb x) :: digs x 0 = [129, UInt8.ofNat x] := by
      have : ∀ y, y < 64 → 0 < y → UInt8.ofNat (128 + nb y) :: digs y 0 = [129, UInt8.ofNat y] := by decide
      exact this x hx h
    rw [e]
    simp only [List.cons_append, List.nil_append, getI]
    have hk : kB 129 = 1 := by decide
    have hf : flB 129 = 0 := by decide
    have hne : UInt8.ofNat x ≠ 0 := by
      have : ∀ y, y < 64 → 0 < y → UInt8.ofNat y ≠ 0 := by decide
      exact this x hx h
    have hv : (UInt8.ofNat x).toNat = x := by simp; omega
    simp [hk, hf, val, hne, hv]
    omega
theorem verR_sign (seed : List UInt8) (h x : Nat) (m : List UInt8) (hh : h ≤ 6) (hx : x < 2 ^ h) (hm : m.length ≤ 1048576) : verR (nodeAt seed h 0) h m (signS seed h x m) = ((x : Int), 0) := by
  have h64 : x < 64 := by
    have : 2 ^ h ≤ 2 ^ 6 := Nat.pow_le_pow_right (by decide) hh
    omega
  unfold verR
  rw [if_neg (by omega), if_neg (by omega), signS_eq, getI_small x h64]
  simp only [List.drop_left, ne_eq, not_true, if_false, length_body, Int.toNat_natCast, rootV_sign seed h x m hx]
  have hx' : ¬ ((x : Int) < 0 ∨ (x : Int) ≥ ((2 ^ h : Nat) : Int) ∨ False) := by
    rintro (h1 | h1 | h1)
    · omega
    · have := Int.ofNat_le.1 h1; omega
    · exact h1
  rw [if_neg hx']
theorem verR_size (p : List UInt8) (h x : Nat) (m r : List UInt8) (hh : h ≤ 6) (hx : x < 2 ^ h) (hm : m.length ≤ 1048576) (hr : r.length ≠ (68 + h) * 16) : verR p h m (encI x ++ r) = (0, 2) := by
  have h64 : x < 64 := by
    have : 2 ^ h ≤ 2 ^ 6 := Nat.pow_le_pow_right (by decide) hh
    omega
  unfold verR
  rw [if_neg (by omega), if_neg (by omega), getI_small x h64]
  simp only [List.drop_left, ne_eq, not_true, if_false, Int.toNat_natCast]
  rw [if_pos (by omega)]
end Go.Proofs.YtidfbboalbchiaaDoor

namespace Go.Proofs.YtidfbboalbchiaaDoor
open Go Go.RowKit

theorem encs_len (l : List Int) : ((l.map encI).flatten).length ≤ 9 * l.length := by
  induction l with
  | nil => simp
  | cons n r ih =>
    have := length_encI_le n
    simp only [List.map_cons, List.flatten_cons, List.length_append, List.length_cons]
    omega
theorem encs_take (l : List Int) (j : Nat) (x : Int) (h : l[j]? = some x) : ((l.take (j + 1)).map encI).flatten = ((l.take j).map encI).flatten ++ encI x := by
  rw [List.take_add_one, h]
  simp
/-- The begin of an encoded list. -/
def encP (l : List Int) (j : Nat) : List UInt8 := encI l.length ++ ((l.take j).map encI).flatten
theorem encP_len (l : List Int) (j : Nat) : (encP l j).length ≤ 9 + 9 * l.length := by
  have h1 := length_encI_le l.length
  have h2 := encs_len (l.take j)
  have h3 : (l.take j).length ≤ l.length := by simp; omega
  unfold encP
  rw [List.length_append]
  omega
theorem encP_zero (l : List Int) : encP l 0 = encI l.length := by simp [encP]
theorem encP_all (l : List Int) : encP l l.length = encL l := by simp [encP, encL]
theorem encP_succ (l : List Int) (j : Nat) (x : Int) (h : l[j]? = some x) : encP l (j + 1) = encP l j ++ encI x := by
  unfold encP; rw [encs_take l j x h, List.append_assoc]
theorem encL_len (l : List Int) : (encL l).length ≤ 9 + 9 * l.length := by rw [← encP_all]; exact encP_len l _
theorem Ri.get {w : World} {ad : Option Addr} {n c : Nat} {l : List Int} (h : Ri w ad n c l) (j : Nat) (x : Int) (hx : l[j]? = some x) : ∃ b o, ad = some ⟨b, o, none⟩ ∧ w.cell? ⟨b, o + j, none⟩ = some (I x) := h.2.2 j (I x) (by simp [hx])

set_option maxRecDepth 4000 in
set_option maxHeartbeats 1000000 in
theorem c134 (l : List Int) (h64 : ∀ n ∈ l, is64 n) (ad0 : Option Addr) (c0 : Nat) (w0 : World) (hR : Ri w0 ad0 l.length c0 l) (hn : l.length ≤ 1000) :
    Calls Tryd.prog 134 #[.slice ad0 l.length c0] w0 fun e w' => ∃ ad c, e = .returned (.slice ad (encL l).length c) ∧ w'.ownsRow w0.heap.size 5 1 (.slice ad (encL l).length c) (encL l).length ((encL l).map B) ∧ Ext w0 w' := by
  refine start 21 Tryd.func134 rfl rfl rfl fun a hk => ?_
  have hB : Ext w0 w0 := Below.refl _ _
  refine wp_seq_k fun K1 hK1 => ?_
  refine wp_region_lit ?_
  refine ls hk rfl rfl rfl (e_assign hk rfl _) fun a hk => ?_
  refine lnil (hK1 _ _ ?_)
  refine wp_seq_k fun K2 hK2 => ?_
  refine wp_region_lit ?_
  refine ls hk rfl rfl rfl (e_move hk rfl _) fun a hk => ?_
  refine ls hk rfl rfl rfl (e_lenS hk rfl Tryd.underlying45 _) fun a hk => ?_
  have hB0 := hB
  refine la hk rfl (a_call hk rfl rfl (c_fn hk rfl ok78) (c78 l.length _ (by omega) (by omega)) ?_)
  rintro e w ⟨ad, c, rfl, hown, hE⟩
  refine ⟨_, rfl, fun a hk => ?_⟩
  have hB := ext_trans hB hE
  have hown := own_mono hown hB0.size
  rw [← encP_zero l] at hk hown
  clear hE
  refine ls hk rfl rfl rfl (e_assign hk rfl _) fun a hk => ?_
  refine lnil (hK2 _ _ ?_)
  refine wp_seq_k fun K3 hK3 => ?_
  refine wp_seq_k fun K4 hK4 => ?_
  refine wp_region_lit ?_
  refine ls hk rfl rfl rfl (e_move hk rfl _) fun a hk => ?_
  refine ls hk rfl rfl rfl (e_lenS hk rfl Tryd.underlying45 _) fun a hk => ?_
  refine ls hk rfl rfl rfl (e_move hk rfl _) fun a hk => ?_
  refine lnil (hK4 _ _ ?_)
  refine wp_block ?_
  refine loopN (fun n a w => ∃ j : Nat, ∃ (ad : Option Addr) (c : Nat), n = l.length - j ∧ j ≤ l.length ∧ Kn a 21 [(9, .slice ad0 l.length c0), (10, I l.length), (3, .slice ad (encP l j).length c), (11, I j)] ∧ (Ext w0 w) ∧ (w.ownsRow w0.heap.size 5 1 (.slice ad (encP l (j)).length c) (encP l (j)).length ((encP l (j)).map B))) (l.length - 0) ?_ fun n a w hI => ?_
  · exact ⟨0, _, _, rfl, by omega, hk.sub _ ⟨rfl, rfl, rfl, rfl, trivial⟩, hB, hown⟩
  clear hk hB
  obtain ⟨j, ad, c, rfl, hi_le, hk, hB, hown⟩ := hI
  refine wp_seq_k fun K5 hK5 => ?_
  refine wp_region_lit ?_
  refine ls hk rfl rfl rfl (e_lss hk rfl rfl rfl _) fun a hk => ?_
  refine lnil (hK5 _ _ ?_)
  refine wp_seq_k fun K6 hK6 => ?_
  refine cdB hk rfl (fun hb => ?_) (fun hb => ?_)
  · have hjl : j < l.length := by have := of_decide_eq_true hb; omega
    obtain ⟨x, hx⟩ : ∃ x, l[j]? = some x := ⟨_, List.getElem?_eq_getElem hjl⟩
    obtain ⟨bp, op, rfl, hcell⟩ := Ri.get (Rd.below hR hB (Nat.le_refl _)) j x hx
    have hx64 := h64 x (List.mem_of_getElem? hx)
    have hml := encP_len l j
    have hel := length_encI_le x
    refine wp_skip (hK6 _ _ ?_)
    refine wp_seq_k fun K7 hK7 => ?_
    refine wp_block ?_
    refine wp_seq_k fun K8 hK8 => ?_
    refine wp_region_lit ?_
    refine ls hk rfl rfl rfl (e_idxS1 j hk rfl rfl Tryd.underlying45 sz3 rfl hjl _) fun a hk => ?_
    refine ls hk rfl rfl rfl (r_load1 (v := I x) hk rfl Tryd.underlying3 rfl hcell) fun a hk => ?_
    refine ls hk rfl rfl rfl (e_assign hk rfl _) fun a hk => ?_
    refine lnil (hK8 _ _ ?_)
    refine wp_region_lit ?_
    refine ls hk rfl rfl rfl (e_move hk rfl _) fun a hk => ?_
    refine ls hk rfl rfl rfl (e_move hk rfl _) fun a hk => ?_
    refine la hk rfl (a_call hk rfl rfl (c_fn hk rfl ok78) (c78 x _ hx64.1 hx64.2) ?_)
    rintro e w ⟨ad2, c2, rfl, hown2, hE⟩
    refine ⟨_, rfl, fun a hk => ?_⟩
    have hB := ext_trans hB hE
    have hown := own_ext hown hE
    obtain ⟨_, _, hv, _, hR2⟩ := Rd.of_own hown2
    cases hv
    clear hE
    refine la hk rfl (a_app (news := (encI x).map B) hk rfl rfl hown rfl hR2 (bytes_one _) Tryd.underlying22 el5 rfl (by decide) (by omega) (by omega) hB.size fun a w v hk hown' hKp => ?_)
    have hB := kept_below hKp hB hown (Nat.le_refl _) hB.size
    clear hown hR2 hKp hown2
    obtain ⟨ad3, c3, rfl, _, _⟩ := Rd.of_own hown'
    rw [← List.length_append, ← encP_succ l j x hx] at hk hown'
    rw [← List.map_append, ← encP_succ l j x hx] at hown'
    have hown := hown'
    clear hown'
    refine ls hk rfl rfl rfl (e_assign hk rfl _) fun a hk => ?_
    refine lnil (hK7 _ _ ?_)
    refine wp_region_lit ?_
    refine ls hk rfl rfl rfl (e_add hk rfl rfl (i64 (by omega) (by omega)) _) fun a hk => ?_
    refine ls hk rfl rfl rfl (e_move hk rfl _) fun a hk => ?_
    refine lnil (show ∃ m : Nat, m < _ ∧ _ from ⟨l.length - (j + 1), by omega, j + 1, _, _, rfl, by omega, hk.sub _ ⟨rfl, rfl, rfl, rfl, trivial⟩, hB, hown⟩)
  · have hjl : j = l.length := by have := of_decide_eq_false hb; omega
    subst hjl
    rw [encP_all] at hk hown
    refine wp_exit (hK3 _ _ ?_)
    refine wp_seq_k fun K9 hK9 => ?_
    refine wp_region_lit ?_
    refine ls hk rfl rfl rfl (e_move hk rfl _) fun a hk => ?_
    refine ls hk rfl rfl rfl (e_assign hk rfl _) fun a hk => ?_
    refine lnil (hK9 _ _ ?_)
    refine wp_ret ?_
    exact ret1 hk rfl rfl ⟨ad, c, rfl, hown, hB⟩

set_option maxRecDepth 4000 in
set_option maxHeartbeats 1000000 in
theorem c135 (l : List Int) (h64 : ∀ n ∈ l, is64 n) (ad0 : Option Addr) (c0 : Nat) (w0 : World) (hR : Ri w0 ad0 l.length c0 l) (hn : l.length ≤ 1000) :
    Calls Tryd.prog 135 #[.slice ad0 l.length c0] w0 fun e w' => ∃ ad c, e = .returned (.slice ad (encL l).length c) ∧ w'.ownsRow w0.heap.size 5 1 (.slice ad (encL l).length c) (encL l).length ((encL l).map B) ∧ Ext w0 w' := by
  refine start 22 Tryd.func135 rfl rfl rfl fun a hk => ?_
  have hB : Ext w0 w0 := Below.refl _ _
  refine wp_seq_k fun K1 hK1 => ?_
  refine wp_region_lit ?_
  refine ls hk rfl rfl rfl (e_assign hk rfl _) fun a hk => ?_
  refine lnil (hK1 _ _ ?_)
  refine wp_seq_k fun K2 hK2 => ?_
  refine wp_region_lit ?_
  refine ls hk rfl rfl rfl (e_move hk rfl _) fun a hk => ?_
  refine ls hk rfl rfl rfl (e_lenS hk rfl Tryd.underlying45 _) fun a hk => ?_
  have hB0 := hB
  refine la hk rfl (a_call hk rfl rfl (c_fn hk rfl ok118) (c118 l.length _ (by omega) (by omega)) ?_)
  rintro e w ⟨ad, c, rfl, hown, hE⟩
  refine ⟨_, rfl, fun a hk => ?_⟩
  have hB := ext_trans hB hE
  have hown := own_mono hown hB0.size
  rw [← encP_zero l] at hk hown
  clear hE
  refine ls hk rfl rfl rfl (e_assign hk rfl _) fun a hk => ?_
  refine lnil (hK2 _ _ ?_)
  refine wp_seq_k fun K3 hK3 => ?_
  refine wp_seq_k fun K4 hK4 => ?_
  refine wp_region_lit ?_
  refine ls hk rfl rfl rfl (e_assign hk rfl _) fun a hk => ?_
  refine lnil (hK4 _ _ ?_)
  refine wp_block ?_
  refine loopN (fun n a w => ∃ j : Nat, ∃ (ad : Option Addr) (c : Nat), n = l.length - j ∧ j ≤ l.length ∧ Kn a 22 [(0, .slice ad0 l.length c0), (3, .slice ad (encP l j).length c), (4, I j)] ∧ (Ext w0 w) ∧ (w.ownsRow w0.heap.size 5 1 (.slice ad (encP l (j)).length c) (encP l (j)).length ((encP l (j)).map B))) (l.length - 0) ?_ fun n a w hI => ?_
  · exact ⟨0, _, _, rfl, by omega, hk.sub _ ⟨rfl, rfl, rfl, trivial⟩, hB, hown⟩
  clear hk hB
  obtain ⟨j, ad, c, rfl, hi_le, hk, hB, hown⟩ := hI
  refine wp_seq_k fun K5 hK5 => ?_
  refine wp_seq_k fun K6 hK6 => ?_
  refine wp_region_lit ?_
  refine ls hk rfl rfl rfl (e_move hk rfl _) fun a hk => ?_
  refine ls hk rfl rfl rfl (e_move hk rfl _) fun a hk => ?_
  refine ls hk rfl rfl rfl (e_lenS hk rfl Tryd.underlying45 _) fun a hk => ?_
  refine ls hk rfl rfl rfl (e_lss hk rfl rfl rfl _) fun a hk => ?_
  refine lnil (hK6 _ _ ?_)
  refine cdB hk rfl (fun hb => ?_) (fun hb => ?_)
  · have hjl : j < l.length := by have := of_decide_eq_true hb; omega
    obtain ⟨x, hx⟩ : ∃ x, l[j]? = some x := ⟨_, List.getElem?_eq_getElem hjl⟩
    obtain ⟨bp, op, rfl, hcell⟩ := Ri.get (Rd.below hR hB (Nat.le_refl _)) j x hx
    have hx64 := h64 x (List.mem_of_getElem? hx)
    have hml := encP_len l j
    have hel := length_encI_le x
    refine wp_skip (hK5 _ _ ?_)
    refine wp_seq_k fun K7 hK7 => ?_
    refine wp_block ?_
    refine wp_region_lit ?_
    refine ls hk rfl rfl rfl (e_move hk rfl _) fun a hk => ?_
    refine ls hk rfl rfl rfl (e_move hk rfl _) fun a hk => ?_
    refine ls hk rfl rfl rfl (e_move hk rfl _) fun a hk => ?_
    refine ls hk rfl rfl rfl (e_idxS1 j hk rfl rfl Tryd.underlying45 sz3 rfl hjl _) fun a hk => ?_
    refine ls hk rfl rfl rfl (r_load1 (v := I x) hk rfl Tryd.underlying3 rfl hcell) fun a hk => ?_
    refine la hk rfl (a_call hk rfl rfl (c_fn hk rfl ok118) (c118 x _ hx64.1 hx64.2) ?_)
    rintro e w ⟨ad2, c2, rfl, hown2, hE⟩
    refine ⟨_, rfl, fun a hk => ?_⟩
    have hB := ext_trans hB hE
    have hown := own_ext hown hE
    obtain ⟨_, _, hv, _, hR2⟩ := Rd.of_own hown2
    cases hv
    clear hE
    refine la hk rfl (a_app (news := (encI x).map B) hk rfl rfl hown rfl hR2 (bytes_one _) Tryd.underlying22 el5 rfl (by decide) (by omega) (by omega) hB.size fun a w v hk hown' hKp => ?_)
    have hB := kept_below hKp hB hown (Nat.le_refl _) hB.size
    clear hown hR2 hKp hown2
    obtain ⟨ad3, c3, rfl, _, _⟩ := Rd.of_own hown'
    rw [← List.length_append, ← encP_succ l j x hx] at hk hown'
    rw [← List.map_append, ← encP_succ l j x hx] at hown'
    have hown := hown'
    clear hown'
    refine ls hk rfl rfl rfl (e_assign hk rfl _) fun a hk => ?_
    refine lnil (hK7 _ _ ?_)
    refine wp_region_lit ?_
    refine ls hk rfl rfl rfl (e_move hk rfl _) fun a hk => ?_
    refine ls hk rfl rfl rfl (e_add hk rfl rfl (i64 (by omega) (by omega)) _) fun a hk => ?_
    refine ls hk rfl rfl rfl (e_assign hk rfl _) fun a hk => ?_
    refine lnil (show ∃ m : Nat, m < _ ∧ _ from ⟨l.length - (j + 1), by omega, j + 1, _, _, rfl, by omega, hk.sub _ ⟨rfl, rfl, rfl, trivial⟩, hB, hown⟩)
  · have hjl : j = l.length := by have := of_decide_eq_false hb; omega
    subst hjl
    rw [encP_all] at hk hown
    refine wp_exit (hK3 _ _ ?_)
    refine wp_seq_k fun K8 hK8 => ?_
    refine wp_region_lit ?_
    refine ls hk rfl rfl rfl (e_move hk rfl _) fun a hk => ?_
    refine ls hk rfl rfl rfl (e_assign hk rfl _) fun a hk => ?_
    refine lnil (hK8 _ _ ?_)
    refine wp_ret ?_
    exact ret1 hk rfl rfl ⟨ad, c, rfl, hown, hB⟩

set_option maxRecDepth 4000 in
set_option maxHeartbeats 1000000 in
theorem c125 (l : List Int) (h64 : ∀ n ∈ l, is64 n) (ad0 : Option Addr) (c0 : Nat) (w0 : World) (hR : Ri w0 ad0 l.length c0 l) (hn : l.length ≤ 1000) :
    Calls Tryd.prog 125 #[.slice ad0 l.length c0] w0 fun e w' => e = .returned (Str (encL l)) ∧ Ext w0 w' := by
  refine start 6 Tryd.func125 rfl rfl rfl fun a hk => ?_
  have hB : Ext w0 w0 := Below.refl _ _
  refine wp_seq_k fun K1 hK1 => ?_
  refine wp_region_lit ?_
  refine ls hk rfl rfl rfl (e_assign hk rfl _) fun a hk => ?_
  refine lnil (hK1 _ _ ?_)
  refine wp_seq_k fun K2 hK2 => ?_
  refine wp_region_lit ?_
  refine ls hk rfl rfl rfl (e_move hk rfl _) fun a hk => ?_
  refine la hk rfl (a_call hk rfl rfl (c_fn hk rfl ok134) (c134 l h64 ad0 c0 _ (Rd.ext hR hB) hn) ?_)
  rintro e w ⟨ad2, c2, rfl, hown2, hE⟩
  refine ⟨_, rfl, fun a hk => ?_⟩
  have hB := ext_trans hB hE
  obtain ⟨_, _, hv, _, hR2⟩ := Rd.of_own hown2
  cases hv
  clear hE
  refine ls hk rfl rfl rfl (e_str hk rfl hR2 Tryd.underlying22 Tryd.underlying5 Tryd.underlying9) fun a hk => ?_
  refine ls hk rfl rfl rfl (e_assign hk rfl _) fun a hk => ?_
  refine lnil (hK2 _ _ ?_)
  refine wp_ret ?_
  exact ret1 hk rfl rfl ⟨rfl, hB⟩

set_option maxRecDepth 4000 in
set_option maxHeartbeats 1000000 in
theorem c127 (l : List Int) (h64 : ∀ n ∈ l, is64 n) (ad0 : Option Addr) (c0 : Nat) (w0 : World) (hR : Ri w0 ad0 l.length c0 l) (hn : l.length ≤ 1000) :
    Calls Tryd.prog 127 #[.slice ad0 l.length c0] w0 fun e w' => e = .returned (Str (encL l)) ∧ Ext w0 w' := by
  refine start 6 Tryd.func127 rfl rfl rfl fun a hk => ?_
  have hB : Ext w0 w0 := Below.refl _ _
  refine wp_seq_k fun K1 hK1 => ?_
  refine wp_region_lit ?_
  refine ls hk rfl rfl rfl (e_assign hk rfl _) fun a hk => ?_
  refine lnil (hK1 _ _ ?_)
  refine wp_seq_k fun K2 hK2 => ?_
  refine wp_region_lit ?_
  refine ls hk rfl rfl rfl (e_move hk rfl _) fun a hk => ?_
  refine la hk rfl (a_call hk rfl rfl (c_fn hk rfl ok135) (c135 l h64 ad0 c0 _ (Rd.ext hR hB) hn) ?_)
  rintro e w ⟨ad2, c2, rfl, hown2, hE⟩
  refine ⟨_, rfl, fun a hk => ?_⟩
  have hB := ext_trans hB hE
  obtain ⟨_, _, hv, _, hR2⟩ := Rd.of_own hown2
  cases hv
  clear hE
  refine ls hk rfl rfl rfl (e_str hk rfl hR2 Tryd.underlying22 Tryd.underlying5 Tryd.underlying9) fun a hk => ?_
  refine ls hk rfl rfl rfl (e_assign hk rfl _) fun a hk => ?_
  refine lnil (hK2 _ _ ?_)
  refine wp_ret ?_
  exact ret1 hk rfl rfl ⟨rfl, hB⟩

set_option maxRecDepth 4000 in
set_option maxHeartbeats 1000000 in
theorem c126 (l r : List UInt8) (ad ad2 : Option Addr) (c c2 : Nat) (w0 : World) (hRl : Rd w0 ad l.length c 1 (l.map B)) (hRr : Rd w0 ad2 r.length c2 1 (r.map B)) (hln : l.length ≤ 1000000) :
    Calls Tryd.prog 126 #[.slice ad l.length c, .slice ad2 r.length c2] w0 fun e w' => e = .returned (.bool (decide (l = r))) ∧ Ext w0 w' := by
  refine start 26 Tryd.func126 rfl rfl rfl fun a hk => ?_
  have hB : Ext w0 w0 := Below.refl _ _
  refine wp_seq_k fun K1 hK1 => ?_
  refine wp_region_lit ?_
  refine ls hk rfl rfl rfl (e_assign hk rfl _) fun a hk => ?_
  refine lnil (hK1 _ _ ?_)
  refine wp_seq_k fun K2 hK2 => ?_
  refine wp_seq_k fun K3 hK3 => ?_
  refine wp_region_lit ?_
  refine ls hk rfl rfl rfl (e_move hk rfl _) fun a hk => ?_
  refine ls hk rfl rfl rfl (e_lenS hk rfl Tryd.underlying22 _) fun a hk => ?_
  refine ls hk rfl rfl rfl (e_move hk rfl _) fun a hk => ?_
  refine ls hk rfl rfl rfl (e_lenS hk rfl Tryd.underlying22 _) fun a hk => ?_
  refine ls hk rfl rfl rfl (e_neq hk rfl rfl rfl _) fun a hk => ?_
  refine lnil (hK3 _ _ ?_)
  refine cdB hk rfl (fun hb => ?_) (fun hb => ?_)
  · have hll : ¬ l.length = r.length := by intro h; rw [h] at hb; simp at hb
    refine wp_seq_k fun K4 hK4 => ?_
    refine wp_region_lit ?_
    refine ls hk rfl rfl rfl (e_assign hk rfl _) fun a hk => ?_
    refine lnil (hK4 _ _ ?_)
    refine wp_ret ?_
    simp only [then_ret]
    exact ret1 hk rfl rfl ⟨by rw [decide_eq_false (fun h => hll (by rw [h]))], hB⟩
  · have hll : l.length = r.length := by
      have h : ((l.length : Nat) : Int) = (r.length : Int) := by simpa using hb
      omega
    refine wp_skip (hK2 _ _ ?_)
    refine wp_seq_k fun K5 hK5 => ?_
    refine wp_seq_k fun K6 hK6 => ?_
    refine wp_region_lit ?_
    refine ls hk rfl rfl rfl (e_assign hk rfl _) fun a hk => ?_
    refine lnil (hK6 _ _ ?_)
    refine wp_block ?_
    refine loopN (fun n a w => ∃ i : Nat, n = l.length - i ∧ i ≤ l.length ∧ Kn a 26 [(0, .slice ad l.length c), (1, .slice ad2 r.length c2), (5, I i)] ∧ (Ext w0 w) ∧ (l.take i = r.take i)) (l.length - 0) ?_ fun n a w hI => ?_
    · exact ⟨0, rfl, by omega, hk.sub _ ⟨rfl, rfl, rfl, trivial⟩, hB, by simp⟩
    clear hk hB
    obtain ⟨i, rfl, hi_le, hk, hB, htt⟩ := hI
    refine wp_seq_k fun K7 hK7 => ?_
    refine wp_seq_k fun K8 hK8 => ?_
    refine wp_region_lit ?_
    refine ls hk rfl rfl rfl (e_move hk rfl _) fun a hk => ?_
    refine ls hk rfl rfl rfl (e_move hk rfl _) fun a hk => ?_
    refine ls hk rfl rfl rfl (e_lenS hk rfl Tryd.underlying22 _) fun a hk => ?_
    refine ls hk rfl rfl rfl (e_lss hk rfl rfl rfl _) fun a hk => ?_
    refine lnil (hK8 _ _ ?_)
    refine cdB hk rfl (fun hb => ?_) (fun hb => ?_)
    · have hil : i < l.length := by have := of_decide_eq_true hb; omega
      have hx : l[i]? = some (l.getD i 0) := by simp [hil]
      have hy : r[i]? = some (r.getD i 0) := by simp [show i < r.length by omega]
      obtain ⟨b1, o1, rfl, hc1⟩ := (Rd.below hRl hB (Nat.le_refl _)).2.2 i (B (l.getD i 0)) (by rw [List.getElem?_map, hx]; rfl)
      obtain ⟨b2, o2, rfl, hc2⟩ := (Rd.below hRr hB (Nat.le_refl _)).2.2 i (B (r.getD i 0)) (by rw [List.getElem?_map, hy]; rfl)
      refine wp_skip (hK7 _ _ ?_)
      refine wp_seq_k fun K9 hK9 => ?_
      refine wp_block ?_
      refine wp_seq_k fun K10 hK10 => ?_
      refine wp_region_ok (fun _ => True) [0, 0, 0, 1, 0, 0, 0, 1, 0] mixed ?_
      have hB := hB.drew
      refine d0 0 hk rfl (by kernel_rfl) rfl rfl rfl rfl (fun _ => e_move hk rfl _) fun a hk => ?_
      refine d0 1 hk rfl (by kernel_rfl) rfl rfl rfl rfl (fun _ => e_move hk rfl _) fun a hk => ?_
      refine d0 2 hk rfl (by kernel_rfl) rfl rfl rfl rfl (fun _ => e_idxS1 i hk rfl rfl Tryd.underlying22 sz5 rfl hil _) fun a hk => ?_
      refine d1 3 hk rfl (by kernel_rfl) rfl rfl rfl rfl (r_load1 hk rfl Tryd.underlying5 rfl (ext_cell (ext_drew _) hc1)) fun a hk => ?_
      refine d0 4 hk rfl (by kernel_rfl) rfl rfl rfl rfl (fun _ => e_move hk rfl _) fun a hk => ?_
      refine d0 5 hk rfl (by kernel_rfl) rfl rfl rfl rfl (fun _ => e_move hk rfl _) fun a hk => ?_
      refine d0 6 hk rfl (by kernel_rfl) rfl rfl rfl rfl (fun _ => e_idxS1 i hk rfl rfl Tryd.underlying22 sz5 rfl (by omega) _) fun a hk => ?_
      refine d1 7 hk rfl (by kernel_rfl) rfl rfl rfl rfl (r_load1 hk rfl Tryd.underlying5 rfl (ext_cell (ext_drew _) hc2)) fun a hk => ?_
      refine d0 8 hk rfl (by kernel_rfl) rfl rfl rfl rfl (fun _ => e_neq (b := !decide (l.getD i 0 = r.getD i 0)) hk rfl rfl (by rw [u8_eq]) _) fun a hk => ?_
      refine okFin (by kernel_rfl) (hK10 _ _ ?_)
      refine cdB hk rfl (fun hb => ?_) (fun hb => ?_)
      · have hne : ¬ l.getD i 0 = r.getD i 0 := fun h => by rw [decide_eq_true h] at hb; cases hb
        refine wp_seq_k fun K11 hK11 => ?_
        refine wp_region_lit ?_
        refine ls hk rfl rfl rfl (e_assign hk rfl _) fun a hk => ?_
        refine lnil (hK11 _ _ ?_)
        refine wp_ret ?_
        simp only [blk_ret, then_ret]
        exact ret1 hk rfl rfl ⟨by rw [decide_eq_false (fun h => hne (by rw [h]))], hB⟩
      · have heq : l.getD i 0 = r.getD i 0 := Classical.byContradiction fun h => by rw [decide_eq_false h] at hb; cases hb
        refine wp_skip (hK9 _ _ ?_)
        refine wp_region_lit ?_
        refine ls hk rfl rfl rfl (e_move hk rfl _) fun a hk => ?_
        refine ls hk rfl rfl rfl (e_add hk rfl rfl (i64 (by omega) (by omega)) _) fun a hk => ?_
        refine ls hk rfl rfl rfl (e_assign hk rfl _) fun a hk => ?_
        refine lnil (show ∃ m : Nat, m < _ ∧ _ from ⟨l.length - (i + 1), by omega, i + 1, rfl, by omega, hk.sub _ ⟨rfl, rfl, rfl, trivial⟩, hB, (take_eq_s l r i _ _ hx hy).2 ⟨htt, heq⟩⟩)
    · have hil : i = l.length := by have := of_decide_eq_false hb; omega
      subst hil
      rw [List.take_length, hll, List.take_length] at htt
      refine wp_exit (hK5 _ _ ?_)
      refine wp_seq_k fun K12 hK12 => ?_
      refine wp_region_lit ?_
      refine ls hk rfl rfl rfl (e_assign hk rfl _) fun a hk => ?_
      refine lnil (hK12 _ _ ?_)
      refine wp_ret ?_
      exact ret1 hk rfl rfl ⟨by rw [decide_eq_true htt], hB⟩

end Go.Proofs.YtidfbboalbchiaaDoor

namespace Go.Proofs.YtidfbboalbchiaaDoor
open Go Go.RowKit

section
variable {a : Act} {w : World} {N : Nat} {L : Fm} {dst : Option Tmp} {ty : TypeId} {pos : String} {af : Array Edge} {g : Option (Nat × Bool)} {x : Operand} {l : List UInt8} {bl o : Nat}
theorem s_ldR44 (hk : Kn a N L) (hx : ov L x = some (.pointer (some ⟨bl, o, none⟩))) (hc : w.rangeAt bl o (l.map B)) (hl : l.length = 16) : Ev Tryd.prog ⟨dst, .load 44 x, ty, pos, af, g⟩ a w (D l) :=
  r_loadR hk hx hc Tryd.underlying44 rfl (by rw [sz44]; simp [hl])
end
theorem ri_lit {w : World} {b : Nat} {e : TypeId} {fr : Nat × Nat} {l : List Int} (h : w.heap[b]? = some (.cells (l.map I).toArray e fr)) : Ri w (some ⟨b, 0, none⟩) l.length l.length l :=
  Rd.of_block h (by simp) (Nat.le_refl _) fun i hi => by rw [Nat.zero_add]; simp
theorem rs_lits {w : World} {b : Nat} {e : TypeId} {fr : Nat × Nat} {l : List (List UInt8)} (h : w.heap[b]? = some (.cells (l.map Str).toArray e fr)) : Rs w (some ⟨b, 0, none⟩) l.length l.length l :=
  Rd.of_block h (by simp) (Nat.le_refl _) fun i hi => by rw [Nat.zero_add]; simp
theorem rd_range {w : World} {b o n c : Nat} {xs : List Value} (h : Rd w (some ⟨b, o, none⟩) n c 1 xs) : w.rangeAt b o xs := fun i u hu => by
  obtain ⟨b', o', e, hc⟩ := h.2.2 i u hu
  cases e
  exact hc
theorem is64_n {n : Nat} (h : n ≤ 1000000) : is64 (n : Int) := ⟨by omega, by omega⟩

set_option maxRecDepth 4000 in
set_option maxHeartbeats 1000000 in
theorem c86 (l r : List UInt8) (w0 : World) (hG : GH w0) (hl : l.length = 16) (hr : r.length = 16) : Calls Tryd.prog 86 #[D l, D r] w0 fun e w' => e = .returned (D (nodeS l r)) ∧ Ext w0 w' := by
  refine start 11 Tryd.func86 rfl rfl rfl fun a hk => ?_
  have hB : Ext w0 w0 := Below.refl _ _
  refine wp_seq_k fun K1 hK1 => ?_
  refine wp_region_lit ?_
  refine la hk rfl (a_box hk rfl rfl fun a w b2 hk G => ?_)
  have hg_b2 : w0.heap.size ≤ b2 := Nat.le_trans hB.size G.ge
  have hB := ext_trans hB G.ext
  have h_b2 := G.at_
  clear G
  refine la hk rfl (a_box hk rfl rfl fun a w b3 hk G => ?_)
  have n_b2_b3 : b2 ≠ b3 := G.ne h_b2
  have hg_b3 : w0.heap.size ≤ b3 := Nat.le_trans hB.size G.ge
  have h_b2 := ext_at G.ext h_b2
  have hB := ext_trans hB G.ext
  have h_b3 := G.at_
  clear G
  refine la hk rfl (a_alloc hk rfl zr44 fun a w b4 hk G => ?_)
  have n_b2_b4 : b2 ≠ b4 := G.ne h_b2
  have n_b3_b4 : b3 ≠ b4 := G.ne h_b3
  have hg_b4 : w0.heap.size ≤ b4 := Nat.le_trans hB.size G.ge
  have h_b2 := ext_at G.ext h_b2
  have h_b3 := ext_at G.ext h_b3
  have hB := ext_trans hB G.ext
  have h_b4 := G.at_
  clear G
  refine lnil (hK1 _ _ ?_)
  refine wp_seq_k fun K2 hK2 => ?_
  refine wp_region_ok (fun _ => True) [0, 1, 0, 1, 2, 2, 2] mixed ?_
  have hB := hB.drew
  have h_b2 := ext_at (ext_drew w) h_b2
  have h_b3 := ext_at (ext_drew w) h_b3
  have h_b4 := ext_at (ext_drew w) h_b4
  refine d0 0 hk rfl (by kernel_rfl) rfl rfl rfl rfl (fun _ => e_slA hk rfl Tryd.underlying44 sz5 _) fun a hk => ?_
  refine d1 1 hk rfl (by kernel_rfl) rfl rfl rfl rfl (e_str hk rfl (rd_dig h_b2 hl) Tryd.underlying22 Tryd.underlying5 Tryd.underlying9) fun a hk => ?_
  refine d0 2 hk rfl (by kernel_rfl) rfl rfl rfl rfl (fun _ => e_slA hk rfl Tryd.underlying44 sz5 _) fun a hk => ?_
  refine d1 3 hk rfl (by kernel_rfl) rfl rfl rfl rfl (e_str hk rfl (rd_dig h_b3 hr) Tryd.underlying22 Tryd.underlying5 Tryd.underlying9) fun a hk => ?_
  refine da 4 hk rfl (by kernel_rfl) rfl rfl (a_lit (cells := #[Str (l), Str (r)]) (zv := .string ByteArray.empty) (sz := 1) (by_ := 16) hk rfl rfl Tryd.underlying27 el9 (by decide) (by decide) (lit2s _ _ rfl rfl _) rfl fun a w bl hk G => ?_)
  have n_b2_bl : b2 ≠ bl := G.ne h_b2
  have n_b3_bl : b3 ≠ bl := G.ne h_b3
  have n_b4_bl : b4 ≠ bl := G.ne h_b4
  have hg_bl : w0.heap.size ≤ bl := Nat.le_trans hB.size G.ge
  have h_b2 := ext_at G.ext h_b2
  have h_b3 := ext_at G.ext h_b3
  have h_b4 := ext_at G.ext h_b4
  have hB := ext_trans hB G.ext
  have h_bl := G.at_
  clear G
  refine da 5 hk rfl (by kernel_rfl) rfl rfl (a_call hk rfl rfl (c_fn hk rfl ok35) (c35 2 [l, r] _ _ _ (rs_lit2 h_bl) (hG.ext hB) (by simp) (by simp; omega)) ?_)
  rintro e w ⟨rfl, hE⟩
  refine ⟨_, rfl, fun a hk => ?_⟩
  have h_b2 := ext_at hE h_b2
  have h_b3 := ext_at hE h_b3
  have h_b4 := ext_at hE h_b4
  have h_bl := ext_at hE h_bl
  have hB := ext_trans hB hE
  clear hE
  refine da 6 hk rfl (by kernel_rfl) rfl rfl (a_st44 (l := nodeS l r) hk rfl rfl (by simp) h_b4 rfl fun a w hk W => ?_)
  have h_b2 := W.keep n_b2_b4 h_b2
  have h_b3 := W.keep n_b3_b4 h_b3
  have h_bl := W.keep (Ne.symm n_b4_bl) h_bl
  have hB := W.below hB hg_b4
  have h_b4 := W.at_
  clear W
  refine okFin (by kernel_rfl) (hK2 _ _ ?_)
  refine wp_ret ?_
  exact ret44 (l := nodeS l r) hk rfl rfl h_b4 (by simp) ⟨rfl, hB⟩

set_option maxRecDepth 4000 in
set_option maxHeartbeats 1000000 in
theorem c90 (l r : List UInt8) (w0 : World) (hGR : GR w0) (hl : l.length = 16) (hr : r.length = 16) : Calls Tryd.prog 90 #[D l, D r] w0 fun e w' => e = .returned (D (nodeS l r)) ∧ Ext w0 w' := by
  refine start 11 Tryd.func90 rfl rfl rfl fun a hk => ?_
  have hB : Ext w0 w0 := Below.refl _ _
  refine wp_seq_k fun K1 hK1 => ?_
  refine wp_region_lit ?_
  refine la hk rfl (a_box hk rfl rfl fun a w b2 hk G => ?_)
  have hg_b2 : w0.heap.size ≤ b2 := Nat.le_trans hB.size G.ge
  have hB := ext_trans hB G.ext
  have h_b2 := G.at_
  clear G
  refine la hk rfl (a_box hk rfl rfl fun a w b3 hk G => ?_)
  have n_b2_b3 : b2 ≠ b3 := G.ne h_b2
  have hg_b3 : w0.heap.size ≤ b3 := Nat.le_trans hB.size G.ge
  have h_b2 := ext_at G.ext h_b2
  have hB := ext_trans hB G.ext
  have h_b3 := G.at_
  clear G
  refine la hk rfl (a_alloc hk rfl zr44 fun a w b4 hk G => ?_)
  have n_b2_b4 : b2 ≠ b4 := G.ne h_b2
  have n_b3_b4 : b3 ≠ b4 := G.ne h_b3
  have hg_b4 : w0.heap.size ≤ b4 := Nat.le_trans hB.size G.ge
  have h_b2 := ext_at G.ext h_b2
  have h_b3 := ext_at G.ext h_b3
  have hB := ext_trans hB G.ext
  have h_b4 := G.at_
  clear G
  refine lnil (hK1 _ _ ?_)
  refine wp_seq_k fun K2 hK2 => ?_
  refine wp_region_ok (fun w => w.heap[b3]? = some (.cells (r.map B).toArray 44 (0, 0))) [1, 4, 3, 2, 2, 2, 2] mixed ?_
  have hB := hB.drew
  have h_b2 := ext_at (ext_drew w) h_b2
  have h_b3 := ext_at (ext_drew w) h_b3
  have h_b4 := ext_at (ext_drew w) h_b4
  have hS : (fun w => w.heap[b3]? = some (.cells (r.map B).toArray 44 (0, 0))) w.drew := h_b3
  refine d1 0 hk rfl (by kernel_rfl) rfl rfl rfl rfl (r_ld44 hk rfl h_b2 hl) fun a hk => ?_
  refine da4 1 hk rfl (by kernel_rfl) rfl rfl hS (a_call hk rfl rfl (c_fn hk rfl ok66) (c66 l _ hl) ?_)
  rintro e w ⟨rfl, hE⟩
  refine ⟨_, rfl, fun a hk => ⟨ext_at hE hS, ?_⟩⟩
  have hS := ext_at hE hS
  have h_b2 := ext_at hE h_b2
  have h_b3 := ext_at hE h_b3
  have h_b4 := ext_at hE h_b4
  have hB := ext_trans hB hE
  clear hE
  refine d3 2 hk rfl (by kernel_rfl) rfl rfl rfl rfl hS (fun w hS => r_ld44 hk rfl hS hr) fun a hk => ?_
  refine da 3 hk rfl (by kernel_rfl) rfl rfl (a_call hk rfl rfl (c_fn hk rfl ok66) (c66 r _ hr) ?_)
  rintro e w ⟨rfl, hE⟩
  refine ⟨_, rfl, fun a hk => ?_⟩
  have hS := ext_at hE hS
  have h_b2 := ext_at hE h_b2
  have h_b3 := ext_at hE h_b3
  have h_b4 := ext_at hE h_b4
  have hB := ext_trans hB hE
  clear hE
  refine da 4 hk rfl (by kernel_rfl) rfl rfl (a_lit (cells := #[Str (l), Str (r)]) (zv := .string ByteArray.empty) (sz := 1) (by_ := 16) hk rfl rfl Tryd.underlying27 el9 (by decide) (by decide) (lit2s _ _ rfl rfl _) rfl fun a w bl hk G => ?_)
  have hS := ext_at G.ext hS
  have n_b2_bl : b2 ≠ bl := G.ne h_b2
  have n_b3_bl : b3 ≠ bl := G.ne h_b3
  have n_b4_bl : b4 ≠ bl := G.ne h_b4
  have hg_bl : w0.heap.size ≤ bl := Nat.le_trans hB.size G.ge
  have h_b2 := ext_at G.ext h_b2
  have h_b3 := ext_at G.ext h_b3
  have h_b4 := ext_at G.ext h_b4
  have hB := ext_trans hB G.ext
  have h_bl := G.at_
  clear G
  refine da 5 hk rfl (by kernel_rfl) rfl rfl (a_call hk rfl rfl (c_fn hk rfl ok36) (c36 2 [l, r] _ _ _ (rs_lit2 h_bl) (hGR.ext hB) (by simp) (by simp; omega)) ?_)
  rintro e w ⟨rfl, hE⟩
  refine ⟨_, rfl, fun a hk => ?_⟩
  have hS := ext_at hE hS
  have h_b2 := ext_at hE h_b2
  have h_b3 := ext_at hE h_b3
  have h_b4 := ext_at hE h_b4
  have h_bl := ext_at hE h_bl
  have hB := ext_trans hB hE
  clear hE
  refine da 6 hk rfl (by kernel_rfl) rfl rfl (a_st44 (l := nodeS l r) hk rfl rfl (by simp) h_b4 rfl fun a w hk W => ?_)
  have h_b2 := W.keep n_b2_b4 h_b2
  have h_b3 := W.keep n_b3_b4 h_b3
  have h_bl := W.keep (Ne.symm n_b4_bl) h_bl
  have hB := W.below hB hg_b4
  have h_b4 := W.at_
  clear W
  refine okFin (by kernel_rfl) (hK2 _ _ ?_)
  refine wp_ret ?_
  exact ret44 (l := nodeS l r) hk rfl rfl h_b4 (by simp) ⟨rfl, hB⟩

set_option maxRecDepth 4000 in
set_option maxHeartbeats 1000000 in
theorem c63 (p : List UInt8) (i : Int) (m : List UInt8) (w0 : World) (hG : GH w0) (hp : p.length = 16) (hi : is64 i) (hm : m.length ≤ 1000000) : Calls Tryd.prog 63 #[D p, I i, Str m] w0 fun e w' => e = .returned (D (digestS p i m)) ∧ Ext w0 w' := by
  have hlen3 : ∀ y ∈ [p, encI i, m], y.length ≤ 1000000 := by
    have h9 := length_encI_le i
    intro y hy
    simp only [List.mem_cons, List.not_mem_nil, or_false] at hy
    rcases hy with rfl | rfl | rfl
    · omega
    · omega
    · exact hm
  refine start 15 Tryd.func63 rfl rfl rfl fun a hk => ?_
  have hB : Ext w0 w0 := Below.refl _ _
  refine wp_seq_k fun K1 hK1 => ?_
  refine wp_region_lit ?_
  refine la hk rfl (a_box hk rfl rfl fun a w b3 hk G => ?_)
  have hg_b3 : w0.heap.size ≤ b3 := Nat.le_trans hB.size G.ge
  have hB := ext_trans hB G.ext
  have h_b3 := G.at_
  clear G
  refine la hk rfl (a_alloc hk rfl zr44 fun a w b6 hk G => ?_)
  have n_b3_b6 : b3 ≠ b6 := G.ne h_b3
  have hg_b6 : w0.heap.size ≤ b6 := Nat.le_trans hB.size G.ge
  have h_b3 := ext_at G.ext h_b3
  have hB := ext_trans hB G.ext
  have h_b6 := G.at_
  clear G
  refine lnil (hK1 _ _ ?_)
  refine wp_seq_k fun K2 hK2 => ?_
  refine wp_region_ok (fun w => w.heap[b3]? = some (.cells (p.map B).toArray 44 (0, 0))) [0, 3, 0, 4, 1, 0, 2, 2, 2] mixed ?_
  have hB := hB.drew
  have h_b3 := ext_at (ext_drew w) h_b3
  have h_b6 := ext_at (ext_drew w) h_b6
  have hS : (fun w => w.heap[b3]? = some (.cells (p.map B).toArray 44 (0, 0))) w.drew := h_b3
  refine d0 0 hk rfl (by kernel_rfl) rfl rfl rfl rfl (fun _ => e_slA hk rfl Tryd.underlying44 sz5 _) fun a hk => ?_
  refine d3 1 hk rfl (by kernel_rfl) rfl rfl rfl rfl hS (fun w hS => e_str hk rfl (rd_dig hS hp) Tryd.underlying22 Tryd.underlying5 Tryd.underlying9) fun a hk => ?_
  refine d0 2 hk rfl (by kernel_rfl) rfl rfl rfl rfl (fun _ => e_move hk rfl _) fun a hk => ?_
  refine da4 3 hk rfl (by kernel_rfl) rfl rfl hS (a_call hk rfl rfl (c_fn hk rfl ok78) (c78 i _ hi.1 hi.2) ?_)
  rintro e w ⟨ad2, c2, rfl, hown2, hE⟩
  refine ⟨_, rfl, fun a hk => ⟨ext_at hE hS, ?_⟩⟩
  have hS := ext_at hE hS
  have h_b3 := ext_at hE h_b3
  have h_b6 := ext_at hE h_b6
  have hB := ext_trans hB hE
  obtain ⟨_, _, hv, _, hR2⟩ := Rd.of_own hown2
  cases hv
  clear hE
  refine d1 4 hk rfl (by kernel_rfl) rfl rfl rfl rfl (e_str hk rfl (hR2) Tryd.underlying22 Tryd.underlying5 Tryd.underlying9) fun a hk => ?_
  refine d0 5 hk rfl (by kernel_rfl) rfl rfl rfl rfl (fun _ => e_move hk rfl _) fun a hk => ?_
  refine da 6 hk rfl (by kernel_rfl) rfl rfl (a_lit (cells := #[Str (p), Str (encI i), Str (m)]) (zv := .string ByteArray.empty) (sz := 1) (by_ := 16) hk rfl rfl Tryd.underlying27 el9 (by decide) (by decide) (lit3 _ _ _ _ rfl rfl rfl) rfl fun a w bl hk G => ?_)
  have hS := ext_at G.ext hS
  have n_b3_bl : b3 ≠ bl := G.ne h_b3
  have n_b6_bl : b6 ≠ bl := G.ne h_b6
  have hg_bl : w0.heap.size ≤ bl := Nat.le_trans hB.size G.ge
  have h_b3 := ext_at G.ext h_b3
  have h_b6 := ext_at G.ext h_b6
  have hB := ext_trans hB G.ext
  have h_bl := G.at_
  clear G
  refine da 7 hk rfl (by kernel_rfl) rfl rfl (a_call hk rfl rfl (c_fn hk rfl ok35) (c35 4 [p, encI i, m] _ _ _ (rs_lits (l := [p, encI i, m]) h_bl) (hG.ext hB) (by simp) hlen3) ?_)
  rintro e w ⟨rfl, hE⟩
  refine ⟨_, rfl, fun a hk => ?_⟩
  have hS := ext_at hE hS
  have h_b3 := ext_at hE h_b3
  have h_b6 := ext_at hE h_b6
  have h_bl := ext_at hE h_bl
  have hB := ext_trans hB hE
  clear hE
  refine da 8 hk rfl (by kernel_rfl) rfl rfl (a_st44 (l := digestS p i m) hk rfl rfl (by simp) h_b6 rfl fun a w hk W => ?_)
  have h_b3 := W.keep n_b3_b6 h_b3
  have h_bl := W.keep (Ne.symm n_b6_bl) h_bl
  have hB := W.below hB hg_b6
  have h_b6 := W.at_
  clear W
  refine okFin (by kernel_rfl) (hK2 _ _ ?_)
  refine wp_ret ?_
  exact ret44 (l := digestS p i m) hk rfl rfl h_b6 (by simp) ⟨rfl, hB⟩

set_option maxRecDepth 4000 in
set_option maxHeartbeats 1000000 in
theorem c64 (p : List UInt8) (i : Int) (m : List UInt8) (w0 : World) (hGR : GR w0) (hp : p.length = 16) (hi : is64 i) (hm : m.length ≤ 1000000) : Calls Tryd.prog 64 #[D p, I i, Str m] w0 fun e w' => e = .returned (D (digestS p i m)) ∧ Ext w0 w' := by
  have hlen3 : ∀ y ∈ [p, encI i, m], y.length ≤ 1000000 := by
    have h9 := length_encI_le i
    intro y hy
    simp only [List.mem_cons, List.not_mem_nil, or_false] at hy
    rcases hy with rfl | rfl | rfl
    · omega
    · omega
    · exact hm
  refine start 15 Tryd.func64 rfl rfl rfl fun a hk => ?_
  have hB : Ext w0 w0 := Below.refl _ _
  refine wp_seq_k fun K1 hK1 => ?_
  refine wp_region_lit ?_
  refine la hk rfl (a_box hk rfl rfl fun a w b3 hk G => ?_)
  have hg_b3 : w0.heap.size ≤ b3 := Nat.le_trans hB.size G.ge
  have hB := ext_trans hB G.ext
  have h_b3 := G.at_
  clear G
  refine la hk rfl (a_alloc hk rfl zr44 fun a w b6 hk G => ?_)
  have n_b3_b6 : b3 ≠ b6 := G.ne h_b3
  have hg_b6 : w0.heap.size ≤ b6 := Nat.le_trans hB.size G.ge
  have h_b3 := ext_at G.ext h_b3
  have hB := ext_trans hB G.ext
  have h_b6 := G.at_
  clear G
  refine lnil (hK1 _ _ ?_)
  refine wp_seq_k fun K2 hK2 => ?_
  refine wp_region_lit ?_
  refine ls hk rfl rfl rfl (r_ld44 hk rfl h_b3 hp) fun a hk => ?_
  refine la hk rfl (a_call hk rfl rfl (c_fn hk rfl ok66) (c66 p _ hp) ?_)
  rintro e w ⟨rfl, hE⟩
  refine ⟨_, rfl, fun a hk => ?_⟩
  have h_b3 := ext_at hE h_b3
  have h_b6 := ext_at hE h_b6
  have hB := ext_trans hB hE
  clear hE
  refine ls hk rfl rfl rfl (e_move hk rfl _) fun a hk => ?_
  refine la hk rfl (a_call hk rfl rfl (c_fn hk rfl ok118) (c118 i _ hi.1 hi.2) ?_)
  rintro e w ⟨ad2, c2, rfl, hown2, hE⟩
  refine ⟨_, rfl, fun a hk => ?_⟩
  have h_b3 := ext_at hE h_b3
  have h_b6 := ext_at hE h_b6
  have hB := ext_trans hB hE
  obtain ⟨_, _, hv, _, hR2⟩ := Rd.of_own hown2
  cases hv
  clear hE
  refine ls hk rfl rfl rfl (e_str hk rfl (hR2) Tryd.underlying22 Tryd.underlying5 Tryd.underlying9) fun a hk => ?_
  refine ls hk rfl rfl rfl (e_move hk rfl _) fun a hk => ?_
  refine la hk rfl (a_lit (cells := #[Str (p), Str (encI i), Str (m)]) (zv := .string ByteArray.empty) (sz := 1) (by_ := 16) hk rfl rfl Tryd.underlying27 el9 (by decide) (by decide) (lit3 _ _ _ _ rfl rfl rfl) rfl fun a w bl hk G => ?_)
  have n_b3_bl : b3 ≠ bl := G.ne h_b3
  have n_b6_bl : b6 ≠ bl := G.ne h_b6
  have hg_bl : w0.heap.size ≤ bl := Nat.le_trans hB.size G.ge
  have h_b3 := ext_at G.ext h_b3
  have h_b6 := ext_at G.ext h_b6
  have hB := ext_trans hB G.ext
  have h_bl := G.at_
  clear G
  refine la hk rfl (a_call hk rfl rfl (c_fn hk rfl ok36) (c36 4 [p, encI i, m] _ _ _ (rs_lits (l := [p, encI i, m]) h_bl) (hGR.ext hB) (by simp) hlen3) ?_)
  rintro e w ⟨rfl, hE⟩
  refine ⟨_, rfl, fun a hk => ?_⟩
  have h_b3 := ext_at hE h_b3
  have h_b6 := ext_at hE h_b6
  have h_bl := ext_at hE h_bl
  have hB := ext_trans hB hE
  clear hE
  refine la hk rfl (a_st44 (l := digestS p i m) hk rfl rfl (by simp) h_b6 rfl fun a w hk W => ?_)
  have h_b3 := W.keep n_b3_b6 h_b3
  have h_bl := W.keep (Ne.symm n_b6_bl) h_bl
  have hB := W.below hB hg_b6
  have h_b6 := W.at_
  clear W
  refine lnil (hK2 _ _ ?_)
  refine wp_ret ?_
  exact ret44 (l := digestS p i m) hk rfl rfl h_b6 (by simp) ⟨rfl, hB⟩

set_option maxRecDepth 4000 in
set_option maxHeartbeats 1000000 in
theorem c79 (x c : Int) (hx : is64 x) (hc : is64 c) (f₀ t₀ : Nat) (hf : f₀ ≤ 100) (ht : t₀ ≤ 100) (v : List UInt8) (hv : v.length = 16) (w0 : World) (hG : GH w0) : Calls Tryd.prog 79 #[I x, I c, I f₀, I t₀, D v] w0 fun e w' => e = .returned (D (adv x c f₀ (t₀ - f₀) v)) ∧ Ext w0 w' := by
  refine start 28 Tryd.func79 rfl rfl rfl fun a hk => ?_
  have hB : Ext w0 w0 := Below.refl _ _
  refine wp_seq_k fun K1 hK1 => ?_
  refine wp_region_lit ?_
  refine la hk rfl (a_box hk rfl rfl fun a w b9 hk G => ?_)
  have hg_b9 : w0.heap.size ≤ b9 := Nat.le_trans hB.size G.ge
  have hB := ext_trans hB G.ext
  have h_b9 := G.at_
  clear G
  refine la hk rfl (a_alloc hk rfl zr44 fun a w b10 hk G => ?_)
  have n_b9_b10 : b9 ≠ b10 := G.ne h_b9
  have hg_b10 : w0.heap.size ≤ b10 := Nat.le_trans hB.size G.ge
  have h_b9 := ext_at G.ext h_b9
  have hB := ext_trans hB G.ext
  have h_b10 := G.at_
  clear G
  refine lnil (hK1 _ _ ?_)
  refine wp_seq_k fun K2 hK2 => ?_
  refine wp_seq_k fun K3 hK3 => ?_
  obtain ⟨Z10, hZ10, hZs⟩ : ∃ Z : Array Value, (Value.agg (List.replicate 16 (Value.int .u8 0)).toArray).cells = Z ∧ Z.size = 16 := ⟨_, rfl, rfl⟩
  rw [hZ10] at h_b10
  refine wp_region_lit ?_
  refine ls hk rfl rfl rfl (e_move hk rfl _) fun a hk => ?_
  refine ls hk rfl rfl rfl (e_assign hk rfl _) fun a hk => ?_
  refine lnil (hK3 _ _ ?_)
  refine wp_block ?_
  refine loopN (fun n a w => ∃ i : Nat, n = (t₀ - f₀) - i ∧ i ≤ (t₀ - f₀) ∧ Kn a 28 [(0, I x), (1, I c), (3, I t₀), (9, .pointer (some ⟨b9, 0, none⟩)), (10, .pointer (some ⟨b10, 0, none⟩)), (11, I ((f₀ + i : Nat) : Int))] ∧ (Ext w0 w) ∧ (w.heap[b9]? = some (.cells ((adv x c f₀ i v).map B).toArray 44 (0, 0))) ∧ (w.heap[b10]? = some (.cells Z10 44 (0, 0)))) ((t₀ - f₀) - 0) ?_ fun n a w hI => ?_
  · exact ⟨0, rfl, by omega, hk.sub _ ⟨rfl, rfl, rfl, rfl, rfl, rfl, trivial⟩, hB, h_b9, h_b10⟩
  clear hk hB h_b9 h_b10
  obtain ⟨i, rfl, hi_le, hk, hB, h_b9, h_b10⟩ := hI
  refine wp_seq_k fun K4 hK4 => ?_
  refine wp_seq_k fun K5 hK5 => ?_
  refine wp_region_lit ?_
  refine ls hk rfl rfl rfl (e_move hk rfl _) fun a hk => ?_
  refine ls hk rfl rfl rfl (e_move hk rfl _) fun a hk => ?_
  refine ls hk rfl rfl rfl (e_lss hk rfl rfl rfl _) fun a hk => ?_
  refine lnil (hK5 _ _ ?_)
  refine cdB hk rfl (fun hb => ?_) (fun hb => ?_)
  · have hit : i < t₀ - f₀ := by have := of_decide_eq_true hb; omega
    refine wp_skip (hK4 _ _ ?_)
    refine wp_seq_k fun K6 hK6 => ?_
    refine wp_block ?_
    have hva := length_adv x c f₀ i v hv
    have h64 : ∀ n ∈ [x, c, ((f₀ + i : Nat) : Int)], is64 n := by
      intro n hn
      simp only [List.mem_cons, List.not_mem_nil, or_false] at hn
      rcases hn with rfl | rfl | rfl
      · exact hx
      · exact hc
      · exact is64_n (by omega)
    have hlen2 : ∀ y ∈ [encL [x, c, ((f₀ + i : Nat) : Int)], (adv x c f₀ i v)], y.length ≤ 1000000 := by
      have h9 := encL_len [x, c, ((f₀ + i : Nat) : Int)]
      intro y hy
      simp only [List.mem_cons, List.not_mem_nil, or_false] at hy
      rcases hy with rfl | rfl
      · simp only [List.length_cons, List.length_nil] at h9; omega
      · omega
    refine wp_region_ok (fun w => w.heap[b9]? = some (.cells ((adv x c f₀ i v).map B).toArray 44 (0, 0))) [0, 0, 0, 4, 4, 0, 3, 2, 2, 2] mixed ?_
    have hB := hB.drew
    have h_b9 := ext_at (ext_drew w) h_b9
    have h_b10 := ext_at (ext_drew w) h_b10
    have hS : (fun w => w.heap[b9]? = some (.cells ((adv x c f₀ i v).map B).toArray 44 (0, 0))) w.drew := h_b9
    refine d0 0 hk rfl (by kernel_rfl) rfl rfl rfl rfl (fun _ => e_move hk rfl _) fun a hk => ?_
    refine d0 1 hk rfl (by kernel_rfl) rfl rfl rfl rfl (fun _ => e_move hk rfl _) fun a hk => ?_
    refine d0 2 hk rfl (by kernel_rfl) rfl rfl rfl rfl (fun _ => e_move hk rfl _) fun a hk => ?_
    refine da4 3 hk rfl (by kernel_rfl) rfl rfl hS (a_lit (cells := #[I (x), I (c), I (((f₀ + i : Nat) : Int))]) (zv := .int .i64 0) (sz := 1) (by_ := 8) hk rfl rfl Tryd.underlying45 el3 (by decide) (by decide) (lit3 _ _ _ _ rfl rfl rfl) rfl fun a w bi hk G => ⟨ext_at G.ext hS, ?_⟩)
    have hS := ext_at G.ext hS
    have n_b9_bi : b9 ≠ bi := G.ne h_b9
    have n_b10_bi : b10 ≠ bi := G.ne h_b10
    have hg_bi : w0.heap.size ≤ bi := Nat.le_trans hB.size G.ge
    have h_b9 := ext_at G.ext h_b9
    have h_b10 := ext_at G.ext h_b10
    have hB := ext_trans hB G.ext
    have h_bi := G.at_
    clear G
    have hRi : Ri w (some ⟨bi, 0, none⟩) 3 3 [x, c, ((f₀ + i : Nat) : Int)] := ri_lit (l := [x, c, ((f₀ + i : Nat) : Int)]) h_bi
    refine da4 4 hk rfl (by kernel_rfl) rfl rfl hS (a_call hk rfl rfl (c_fn hk rfl ok125) (c125 [x, c, ((f₀ + i : Nat) : Int)] h64 _ _ _ hRi (by simp)) ?_)
    rintro e w ⟨rfl, hE⟩
    refine ⟨_, rfl, fun a hk => ⟨ext_at hE hS, ?_⟩⟩
    have hS := ext_at hE hS
    have h_b9 := ext_at hE h_b9
    have h_b10 := ext_at hE h_b10
    have h_bi := ext_at hE h_bi
    have hB := ext_trans hB hE
    clear hE
    refine d0 5 hk rfl (by kernel_rfl) rfl rfl rfl rfl (fun _ => e_slA hk rfl Tryd.underlying44 sz5 _) fun a hk => ?_
    refine d3 6 hk rfl (by kernel_rfl) rfl rfl rfl rfl hS (fun w hS => e_str hk rfl (rd_dig hS hva) Tryd.underlying22 Tryd.underlying5 Tryd.underlying9) fun a hk => ?_
    refine da 7 hk rfl (by kernel_rfl) rfl rfl (a_lit (cells := #[Str (encL [x, c, ((f₀ + i : Nat) : Int)]), Str ((adv x c f₀ i v))]) (zv := .string ByteArray.empty) (sz := 1) (by_ := 16) hk rfl rfl Tryd.underlying27 el9 (by decide) (by decide) (lit2s _ _ rfl rfl _) rfl fun a w bl hk G => ?_)
    have hS := ext_at G.ext hS
    have n_b9_bl : b9 ≠ bl := G.ne h_b9
    have n_b10_bl : b10 ≠ bl := G.ne h_b10
    have n_bi_bl : bi ≠ bl := G.ne h_bi
    have hg_bl : w0.heap.size ≤ bl := Nat.le_trans hB.size G.ge
    have h_b9 := ext_at G.ext h_b9
    have h_b10 := ext_at G.ext h_b10
    have h_bi := ext_at G.ext h_bi
    have hB := ext_trans hB G.ext
    have h_bl := G.at_
    clear G
    refine da 8 hk rfl (by kernel_rfl) rfl rfl (a_call hk rfl rfl (c_fn hk rfl ok35) (c35 5 [encL [x, c, ((f₀ + i : Nat) : Int)], (adv x c f₀ i v)] _ _ _ (rs_lit2 h_bl) (hG.ext hB) (by simp) hlen2) ?_)
    rintro e w ⟨rfl, hE⟩
    refine ⟨_, rfl, fun a hk => ?_⟩
    have hS := ext_at hE hS
    have h_b9 := ext_at hE h_b9
    have h_b10 := ext_at hE h_b10
    have h_bi := ext_at hE h_bi
    have h_bl := ext_at hE h_bl
    have hB := ext_trans hB hE
    clear hE
    refine da 9 hk rfl (by kernel_rfl) rfl rfl (a_st44 (l := adv x c f₀ (i + 1) v) hk rfl rfl (length_adv x c f₀ (i + 1) v hv) h_b9 (by simp [hva]) fun a w hk W => ?_)
    have h_b10 := W.keep (Ne.symm n_b9_b10) h_b10
    have h_bi := W.keep (Ne.symm n_b9_bi) h_bi
    have h_bl := W.keep (Ne.symm n_b9_bl) h_bl
    have hB := W.below hB hg_b9
    have h_b9 := W.at_
    clear W
    refine okFin (by kernel_rfl) (hK6 _ _ ?_)
    refine wp_region_lit ?_
    refine ls hk rfl rfl rfl (e_move hk rfl _) fun a hk => ?_
    refine ls hk rfl rfl rfl (e_add (q := ((f₀ + (i + 1) : Nat) : Int)) hk rfl rfl (by rw [i64 (by omega) (by omega)]; omega) _) fun a hk => ?_
    refine ls hk rfl rfl rfl (e_assign hk rfl _) fun a hk => ?_
    refine lnil (show ∃ m : Nat, m < _ ∧ _ from ⟨(t₀ - f₀) - (i + 1), by omega, i + 1, rfl, by omega, hk.sub _ ⟨rfl, rfl, rfl, rfl, rfl, rfl, trivial⟩, hB, h_b9, h_b10⟩)
  · have hil : i = t₀ - f₀ := by have := of_decide_eq_false hb; omega
    subst hil
    have hva := length_adv x c f₀ (t₀ - f₀) v hv
    refine wp_exit (hK2 _ _ ?_)
    refine wp_seq_k fun K7 hK7 => ?_
    refine wp_region_lit ?_
    refine ls hk rfl rfl rfl (r_ld44 hk rfl h_b9 hva) fun a hk => ?_
    refine la hk rfl (a_st44 hk rfl rfl hva h_b10 hZs fun a w hk W => ?_)
    have h_b9 := W.keep n_b9_b10 h_b9
    have hB := W.below hB hg_b10
    have h_b10 := W.at_
    clear W
    refine lnil (hK7 _ _ ?_)
    refine wp_ret ?_
    exact ret44 (l := adv x c f₀ (t₀ - f₀) v) hk rfl rfl h_b10 hva ⟨rfl, hB⟩

set_option maxRecDepth 4000 in
set_option maxHeartbeats 1000000 in
theorem c88 (x c : Int) (hx : is64 x) (hc : is64 c) (f₀ t₀ : Nat) (hf : f₀ ≤ 100) (ht : t₀ ≤ 100) (v : List UInt8) (hv : v.length = 16) (w0 : World) (hGR : GR w0) : Calls Tryd.prog 88 #[I x, I c, I f₀, I t₀, D v] w0 fun e w' => e = .returned (D (adv x c f₀ (t₀ - f₀) v)) ∧ Ext w0 w' := by
  refine start 28 Tryd.func88 rfl rfl rfl fun a hk => ?_
  have hB : Ext w0 w0 := Below.refl _ _
  refine wp_seq_k fun K1 hK1 => ?_
  refine wp_region_lit ?_
  refine la hk rfl (a_box hk rfl rfl fun a w b9 hk G => ?_)
  have hg_b9 : w0.heap.size ≤ b9 := Nat.le_trans hB.size G.ge
  have hB := ext_trans hB G.ext
  have h_b9 := G.at_
  clear G
  refine la hk rfl (a_alloc hk rfl zr44 fun a w b10 hk G => ?_)
  have n_b9_b10 : b9 ≠ b10 := G.ne h_b9
  have hg_b10 : w0.heap.size ≤ b10 := Nat.le_trans hB.size G.ge
  have h_b9 := ext_at G.ext h_b9
  have hB := ext_trans hB G.ext
  have h_b10 := G.at_
  clear G
  refine lnil (hK1 _ _ ?_)
  refine wp_seq_k fun K2 hK2 => ?_
  refine wp_seq_k fun K3 hK3 => ?_
  obtain ⟨Z10, hZ10, hZs⟩ : ∃ Z : Array Value, (Value.agg (List.replicate 16 (Value.int .u8 0)).toArray).cells = Z ∧ Z.size = 16 := ⟨_, rfl, rfl⟩
  rw [hZ10] at h_b10
  refine wp_region_lit ?_
  refine ls hk rfl rfl rfl (e_move hk rfl _) fun a hk => ?_
  refine ls hk rfl rfl rfl (e_assign hk rfl _) fun a hk => ?_
  refine lnil (hK3 _ _ ?_)
  refine wp_block ?_
  refine loopN (fun n a w => ∃ i : Nat, n = (t₀ - f₀) - i ∧ i ≤ (t₀ - f₀) ∧ Kn a 28 [(0, I x), (1, I c), (3, I t₀), (9, .pointer (some ⟨b9, 0, none⟩)), (10, .pointer (some ⟨b10, 0, none⟩)), (11, I ((f₀ + i : Nat) : Int))] ∧ (Ext w0 w) ∧ (w.heap[b9]? = some (.cells ((adv x c f₀ i v).map B).toArray 44 (0, 0))) ∧ (w.heap[b10]? = some (.cells Z10 44 (0, 0)))) ((t₀ - f₀) - 0) ?_ fun n a w hI => ?_
  · exact ⟨0, rfl, by omega, hk.sub _ ⟨rfl, rfl, rfl, rfl, rfl, rfl, trivial⟩, hB, h_b9, h_b10⟩
  clear hk hB h_b9 h_b10
  obtain ⟨i, rfl, hi_le, hk, hB, h_b9, h_b10⟩ := hI
  refine wp_seq_k fun K4 hK4 => ?_
  refine wp_seq_k fun K5 hK5 => ?_
  refine wp_region_lit ?_
  refine ls hk rfl rfl rfl (e_move hk rfl _) fun a hk => ?_
  refine ls hk rfl rfl rfl (e_move hk rfl _) fun a hk => ?_
  refine ls hk rfl rfl rfl (e_lss hk rfl rfl rfl _) fun a hk => ?_
  refine lnil (hK5 _ _ ?_)
  refine cdB hk rfl (fun hb => ?_) (fun hb => ?_)
  · have hit : i < t₀ - f₀ := by have := of_decide_eq_true hb; omega
    refine wp_skip (hK4 _ _ ?_)
    refine wp_seq_k fun K6 hK6 => ?_
    refine wp_block ?_
    have hva := length_adv x c f₀ i v hv
    have h64 : ∀ n ∈ [x, c, ((f₀ + i : Nat) : Int)], is64 n := by
      intro n hn
      simp only [List.mem_cons, List.not_mem_nil, or_false] at hn
      rcases hn with rfl | rfl | rfl
      · exact hx
      · exact hc
      · exact is64_n (by omega)
    have hlen2 : ∀ y ∈ [encL [x, c, ((f₀ + i : Nat) : Int)], (adv x c f₀ i v)], y.length ≤ 1000000 := by
      have h9 := encL_len [x, c, ((f₀ + i : Nat) : Int)]
      intro y hy
      simp only [List.mem_cons, List.not_mem_nil, or_false] at hy
      rcases hy with rfl | rfl
      · simp only [List.length_cons, List.length_nil] at h9; omega
      · omega
    refine wp_region_ok (fun w => w.heap[b9]? = some (.cells ((adv x c f₀ i v).map B).toArray 44 (0, 0))) [0, 0, 0, 4, 4, 3, 2, 2, 2, 2] mixed ?_
    have hB := hB.drew
    have h_b9 := ext_at (ext_drew w) h_b9
    have h_b10 := ext_at (ext_drew w) h_b10
    have hS : (fun w => w.heap[b9]? = some (.cells ((adv x c f₀ i v).map B).toArray 44 (0, 0))) w.drew := h_b9
    refine d0 0 hk rfl (by kernel_rfl) rfl rfl rfl rfl (fun _ => e_move hk rfl _) fun a hk => ?_
    refine d0 1 hk rfl (by kernel_rfl) rfl rfl rfl rfl (fun _ => e_move hk rfl _) fun a hk => ?_
    refine d0 2 hk rfl (by kernel_rfl) rfl rfl rfl rfl (fun _ => e_move hk rfl _) fun a hk => ?_
    refine da4 3 hk rfl (by kernel_rfl) rfl rfl hS (a_lit (cells := #[I (x), I (c), I (((f₀ + i : Nat) : Int))]) (zv := .int .i64 0) (sz := 1) (by_ := 8) hk rfl rfl Tryd.underlying45 el3 (by decide) (by decide) (lit3 _ _ _ _ rfl rfl rfl) rfl fun a w bi hk G => ⟨ext_at G.ext hS, ?_⟩)
    have hS := ext_at G.ext hS
    have n_b9_bi : b9 ≠ bi := G.ne h_b9
    have n_b10_bi : b10 ≠ bi := G.ne h_b10
    have hg_bi : w0.heap.size ≤ bi := Nat.le_trans hB.size G.ge
    have h_b9 := ext_at G.ext h_b9
    have h_b10 := ext_at G.ext h_b10
    have hB := ext_trans hB G.ext
    have h_bi := G.at_
    clear G
    have hRi : Ri w (some ⟨bi, 0, none⟩) 3 3 [x, c, ((f₀ + i : Nat) : Int)] := ri_lit (l := [x, c, ((f₀ + i : Nat) : Int)]) h_bi
    refine da4 4 hk rfl (by kernel_rfl) rfl rfl hS (a_call hk rfl rfl (c_fn hk rfl ok127) (c127 [x, c, ((f₀ + i : Nat) : Int)] h64 _ _ _ hRi (by simp)) ?_)
    rintro e w ⟨rfl, hE⟩
    refine ⟨_, rfl, fun a hk => ⟨ext_at hE hS, ?_⟩⟩
    have hS := ext_at hE hS
    have h_b9 := ext_at hE h_b9
    have h_b10 := ext_at hE h_b10
    have h_bi := ext_at hE h_bi
    have hB := ext_trans hB hE
    clear hE
    refine d3 5 hk rfl (by kernel_rfl) rfl rfl rfl rfl hS (fun w hS => r_ld44 hk rfl hS hva) fun a hk => ?_
    refine da 6 hk rfl (by kernel_rfl) rfl rfl (a_call hk rfl rfl (c_fn hk rfl ok66) (c66 (adv x c f₀ i v) _ hva) ?_)
    rintro e w ⟨rfl, hE⟩
    refine ⟨_, rfl, fun a hk => ?_⟩
    have hS := ext_at hE hS
    have h_b9 := ext_at hE h_b9
    have h_b10 := ext_at hE h_b10
    have h_bi := ext_at hE h_bi
    have hB := ext_trans hB hE
    clear hE
    refine da 7 hk rfl (by kernel_rfl) rfl rfl (a_lit (cells := #[Str (encL [x, c, ((f₀ + i : Nat) : Int)]), Str ((adv x c f₀ i v))]) (zv := .string ByteArray.empty) (sz := 1) (by_ := 16) hk rfl rfl Tryd.underlying27 el9 (by decide) (by decide) (lit2s _ _ rfl rfl _) rfl fun a w bl hk G => ?_)
    have hS := ext_at G.ext hS
    have n_b9_bl : b9 ≠ bl := G.ne h_b9
    have n_b10_bl : b10 ≠ bl := G.ne h_b10
    have n_bi_bl : bi ≠ bl := G.ne h_bi
    have hg_bl : w0.heap.size ≤ bl := Nat.le_trans hB.size G.ge
    have h_b9 := ext_at G.ext h_b9
    have h_b10 := ext_at G.ext h_b10
    have h_bi := ext_at G.ext h_bi
    have hB := ext_trans hB G.ext
    have h_bl := G.at_
    clear G
    refine da 8 hk rfl (by kernel_rfl) rfl rfl (a_call hk rfl rfl (c_fn hk rfl ok36) (c36 5 [encL [x, c, ((f₀ + i : Nat) : Int)], (adv x c f₀ i v)] _ _ _ (rs_lit2 h_bl) (hGR.ext hB) (by simp) hlen2) ?_)
    rintro e w ⟨rfl, hE⟩
    refine ⟨_, rfl, fun a hk => ?_⟩
    have hS := ext_at hE hS
    have h_b9 := ext_at hE h_b9
    have h_b10 := ext_at hE h_b10
    have h_bi := ext_at hE h_bi
    have h_bl := ext_at hE h_bl
    have hB := ext_trans hB hE
    clear hE
    refine da 9 hk rfl (by kernel_rfl) rfl rfl (a_st44 (l := adv x c f₀ (i + 1) v) hk rfl rfl (length_adv x c f₀ (i + 1) v hv) h_b9 (by simp [hva]) fun a w hk W => ?_)
    have h_b10 := W.keep (Ne.symm n_b9_b10) h_b10
    have h_bi := W.keep (Ne.symm n_b9_bi) h_bi
    have h_bl := W.keep (Ne.symm n_b9_bl) h_bl
    have hB := W.below hB hg_b9
    have h_b9 := W.at_
    clear W
    refine okFin (by kernel_rfl) (hK6 _ _ ?_)
    refine wp_region_lit ?_
    refine ls hk rfl rfl rfl (e_move hk rfl _) fun a hk => ?_
    refine ls hk rfl rfl rfl (e_add (q := ((f₀ + (i + 1) : Nat) : Int)) hk rfl rfl (by rw [i64 (by omega) (by omega)]; omega) _) fun a hk => ?_
    refine ls hk rfl rfl rfl (e_assign hk rfl _) fun a hk => ?_
    refine lnil (show ∃ m : Nat, m < _ ∧ _ from ⟨(t₀ - f₀) - (i + 1), by omega, i + 1, rfl, by omega, hk.sub _ ⟨rfl, rfl, rfl, rfl, rfl, rfl, trivial⟩, hB, h_b9, h_b10⟩)
  · have hil : i = t₀ - f₀ := by have := of_decide_eq_false hb; omega
    subst hil
    have hva := length_adv x c f₀ (t₀ - f₀) v hv
    refine wp_exit (hK2 _ _ ?_)
    refine wp_seq_k fun K7 hK7 => ?_
    refine wp_region_lit ?_
    refine ls hk rfl rfl rfl (r_ld44 hk rfl h_b9 hva) fun a hk => ?_
    refine la hk rfl (a_st44 hk rfl rfl hva h_b10 hZs fun a w hk W => ?_)
    have h_b9 := W.keep n_b9_b10 h_b9
    have hB := W.below hB hg_b10
    have h_b10 := W.at_
    clear W
    refine lnil (hK7 _ _ ?_)
    refine wp_ret ?_
    exact ret44 (l := adv x c f₀ (t₀ - f₀) v) hk rfl rfl h_b10 hva ⟨rfl, hB⟩

set_option maxRecDepth 4000 in
set_option maxHeartbeats 1000000 in
theorem c89 (s : List UInt8) (w0 : World) (hs : 16 ≤ s.length) : Calls Tryd.prog 89 #[Str s] w0 fun e w' => e = .returned (D (s.take 16)) ∧ Ext w0 w' := by
  refine start 15 Tryd.func89 rfl rfl rfl fun a hk => ?_
  have hB : Ext w0 w0 := Below.refl _ _
  refine wp_seq_k fun K1 hK1 => ?_
  refine wp_region_lit ?_
  refine la hk rfl (a_alloc hk rfl zr44 fun a w b2 hk G => ?_)
  have hg_b2 : w0.heap.size ≤ b2 := Nat.le_trans hB.size G.ge
  have hB := ext_trans hB G.ext
  have h_b2 := G.at_
  clear G
  refine lnil (hK1 _ _ ?_)
  refine wp_seq_k fun K2 hK2 => ?_
  refine wp_region_lit ?_
  refine la hk rfl (a_alloc hk rfl zr44 fun a w b3 hk G => ?_)
  have n_b2_b3 : b2 ≠ b3 := G.ne h_b2
  have hg_b3 : w0.heap.size ≤ b3 := Nat.le_trans hB.size G.ge
  have h_b2 := ext_at G.ext h_b2
  have hB := ext_trans hB G.ext
  have h_b3 := G.at_
  clear G
  refine lnil (hK2 _ _ ?_)
  refine wp_seq_k fun K3 hK3 => ?_
  refine wp_seq_k fun K4 hK4 => ?_
  have h_b3 : w.heap[b3]? = some (.cells ((part16 s 0).map B).toArray 44 (0, 0)) := by rw [part16_zero]; exact h_b3
  obtain ⟨Z2, hZ2, hZs⟩ : ∃ Z : Array Value, (Value.agg (List.replicate 16 (Value.int .u8 0)).toArray).cells = Z ∧ Z.size = 16 := ⟨_, rfl, rfl⟩
  rw [hZ2] at h_b2
  refine wp_region_lit ?_
  refine ls hk rfl rfl rfl (e_assign hk rfl _) fun a hk => ?_
  refine lnil (hK4 _ _ ?_)
  refine wp_block ?_
  refine loopN (fun n a w => ∃ i : Nat, n = 16 - i ∧ i ≤ 16 ∧ Kn a 15 [(0, Str s), (2, .pointer (some ⟨b2, 0, none⟩)), (3, .pointer (some ⟨b3, 0, none⟩)), (4, I i)] ∧ (Ext w0 w) ∧ (w.heap[b2]? = some (.cells Z2 44 (0, 0))) ∧ (w.heap[b3]? = some (.cells ((part16 s i).map B).toArray 44 (0, 0)))) (16 - 0) ?_ fun n a w hI => ?_
  · exact ⟨0, rfl, by omega, hk.sub _ ⟨rfl, rfl, rfl, rfl, trivial⟩, hB, h_b2, h_b3⟩
  clear hk hB h_b2 h_b3
  obtain ⟨i, rfl, hi_le, hk, hB, h_b2, h_b3⟩ := hI
  refine wp_seq_k fun K5 hK5 => ?_
  refine wp_seq_k fun K6 hK6 => ?_
  refine wp_region_lit ?_
  refine ls hk rfl rfl rfl (e_move hk rfl _) fun a hk => ?_
  refine ls hk rfl rfl rfl (e_lss hk rfl rfl rfl _) fun a hk => ?_
  refine lnil (hK6 _ _ ?_)
  refine cdB hk rfl (fun hb => ?_) (fun hb => ?_)
  · have hi : i < 16 := by have := of_decide_eq_true hb; omega
    refine wp_skip (hK5 _ _ ?_)
    refine wp_seq_k fun K7 hK7 => ?_
    refine wp_block ?_
    refine wp_region_lit ?_
    refine ls hk rfl rfl rfl (e_move hk rfl _) fun a hk => ?_
    refine ls hk rfl rfl rfl (e_move hk rfl _) fun a hk => ?_
    refine ls hk rfl rfl rfl (e_move hk rfl _) fun a hk => ?_
    refine ls hk rfl rfl rfl (e_idxStr (c := s.getD i 0) hk rfl rfl Tryd.underlying9 (by omega) (by rw [Int.toNat_natCast]; simp [show i < s.length by omega]) _) fun a hk => ?_
    refine ls hk rfl rfl rfl (e_idxA1 i hk rfl rfl Tryd.underlying44 sz5 rfl hi _) fun a hk => ?_
    refine la hk rfl (a_store hk rfl rfl rfl sz5 h_b3 (by simp [length_part16, hs, hi_le]; omega) fun a w hk W => ?_)
    have h_b2 := W.keep n_b2_b3 h_b2
    have hB := W.below hB hg_b3
    have h_b3 := W.at_
    clear W
    rw [part16_set s i hs hi] at h_b3
    refine lnil (hK7 _ _ ?_)
    refine wp_region_lit ?_
    refine ls hk rfl rfl rfl (e_move hk rfl _) fun a hk => ?_
    refine ls hk rfl rfl rfl (e_add hk rfl rfl (i64 (by omega) (by omega)) _) fun a hk => ?_
    refine ls hk rfl rfl rfl (e_assign hk rfl _) fun a hk => ?_
    refine lnil (show ∃ m : Nat, m < _ ∧ _ from ⟨16 - (i + 1), by omega, i + 1, rfl, by omega, hk.sub _ ⟨rfl, rfl, rfl, rfl, trivial⟩, hB, h_b2, h_b3⟩)
  · have hi : i = 16 := by have := of_decide_eq_false hb; omega
    subst hi
    rw [part16_all] at h_b3
    refine wp_exit (hK3 _ _ ?_)
    refine wp_seq_k fun K8 hK8 => ?_
    refine wp_region_lit ?_
    refine ls hk rfl rfl rfl (r_ld44 hk rfl h_b3 (by simp; omega)) fun a hk => ?_
    refine la hk rfl (a_st44 hk rfl rfl (by simp; omega) h_b2 hZs fun a w hk W => ?_)
    have h_b3 := W.keep (Ne.symm n_b2_b3) h_b3
    have hB := W.below hB hg_b2
    have h_b2 := W.at_
    clear W
    refine lnil (hK8 _ _ ?_)
    refine wp_ret ?_
    exact ret44 hk rfl rfl h_b2 (by simp; omega) ⟨rfl, hB⟩

set_option maxRecDepth 4000 in
set_option maxHeartbeats 1000000 in
theorem c80 (s : List UInt8) (x c : Int) (hx : is64 x) (hc : is64 c) (hs : s.length ≤ 1000000) (w0 : World) (hG : GH w0) : Calls Tryd.prog 80 #[Str s, I x, I c] w0 fun e w' => e = .returned (D (startS s x c)) ∧ Ext w0 w' := by
  have h64 : ∀ n ∈ [x, c], is64 n := by
    intro n hn
    simp only [List.mem_cons, List.not_mem_nil, or_false] at hn
    rcases hn with rfl | rfl
    · exact hx
    · exact hc
  have h9 := encL_len [x, c]
  simp only [List.length_cons, List.length_nil] at h9
  have hml := length_mac s (chainB ++ encL [x, c])
  refine start 18 Tryd.func80 rfl rfl rfl fun a hk => ?_
  have hB : Ext w0 w0 := Below.refl _ _
  refine wp_seq_k fun K1 hK1 => ?_
  refine wp_region_lit ?_
  refine la hk rfl (a_alloc hk rfl zr44 fun a w b6 hk G => ?_)
  have hg_b6 : w0.heap.size ≤ b6 := Nat.le_trans hB.size G.ge
  have hB := ext_trans hB G.ext
  have h_b6 := G.at_
  clear G
  refine lnil (hK1 _ _ ?_)
  refine wp_seq_k fun K2 hK2 => ?_
  refine wp_region_lit ?_
  refine ls hk rfl rfl rfl (e_move hk rfl _) fun a hk => ?_
  refine ls hk rfl rfl rfl (e_move hk rfl _) fun a hk => ?_
  refine ls hk rfl rfl rfl (e_move hk rfl _) fun a hk => ?_
  refine la hk rfl (a_lit (cells := #[I (x), I (c)]) (zv := .int .i64 0) (sz := 1) (by_ := 8) hk rfl rfl Tryd.underlying45 el3 (by decide) (by decide) (lit2s _ _ rfl rfl _) rfl fun a w bi hk G => ?_)
  have n_b6_bi : b6 ≠ bi := G.ne h_b6
  have hg_bi : w0.heap.size ≤ bi := Nat.le_trans hB.size G.ge
  have h_b6 := ext_at G.ext h_b6
  have hB := ext_trans hB G.ext
  have h_bi := G.at_
  clear G
  have hRi : Ri w (some ⟨bi, 0, none⟩) 2 2 [x, c] := ri_lit (l := [x, c]) h_bi
  refine la hk rfl (a_call hk rfl rfl (c_fn hk rfl ok125) (c125 [x, c] h64 _ _ _ hRi (by simp)) ?_)
  rintro e w ⟨rfl, hE⟩
  refine ⟨_, rfl, fun a hk => ?_⟩
  have h_b6 := ext_at hE h_b6
  have h_bi := ext_at hE h_bi
  have hB := ext_trans hB hE
  clear hE
  refine ls hk rfl rfl rfl (e_sadd (s := chainB) (u := encL [x, c]) hk rfl rfl (by simp [chainB]; omega) _) fun a hk => ?_
  refine la hk rfl (a_call hk rfl rfl (c_fn hk rfl ok30) (c30 s (chainB ++ encL [x, c]) _ (hG.ext hB) (by omega) (by simp [chainB]; omega)) ?_)
  rintro e w ⟨rfl, hE⟩
  refine ⟨_, rfl, fun a hk => ?_⟩
  have h_b6 := ext_at hE h_b6
  have h_bi := ext_at hE h_bi
  have hB := ext_trans hB hE
  clear hE
  refine ls hk rfl rfl rfl (e_slStrToN 16 hk rfl rfl Tryd.underlying9 rfl (by omega) _) fun a hk => ?_
  refine la hk rfl (a_bytes hk rfl rfl Tryd.underlying9 Tryd.underlying22 Tryd.underlying5 fun a w bb cc hk hgb hE hRb => ?_)
  have h_b6 := ext_at hE h_b6
  have h_bi := ext_at hE h_bi
  have hB := ext_trans hB hE
  clear hE
  refine ls hk rfl rfl rfl (e_s2a hk rfl Tryd.underlying44 (by simp; omega) _) fun a hk => ?_
  refine ls hk rfl rfl rfl (s_ldR44 (l := startS s x c) hk rfl (rd_range hRb) (by simp)) fun a hk => ?_
  refine la hk rfl (a_st44 (l := startS s x c) hk rfl rfl (by simp) h_b6 rfl fun a w hk W => ?_)
  have h_bi := W.keep (Ne.symm n_b6_bi) h_bi
  have hB := W.below hB hg_b6
  have h_b6 := W.at_
  clear W
  refine lnil (hK2 _ _ ?_)
  refine wp_ret ?_
  exact ret44 (l := startS s x c) hk rfl rfl h_b6 (by simp) ⟨rfl, hB⟩

set_option maxRecDepth 4000 in
set_option maxHeartbeats 1000000 in
theorem c119 (s : List UInt8) (x c : Int) (hx : is64 x) (hc : is64 c) (hs : s.length ≤ 1000000) (w0 : World) (hGR : GR w0) : Calls Tryd.prog 119 #[Str s, I x, I c] w0 fun e w' => e = .returned (D (startS s x c)) ∧ Ext w0 w' := by
  have h64 : ∀ n ∈ [x, c], is64 n := by
    intro n hn
    simp only [List.mem_cons, List.not_mem_nil, or_false] at hn
    rcases hn with rfl | rfl
    · exact hx
    · exact hc
  have h9 := encL_len [x, c]
  simp only [List.length_cons, List.length_nil] at h9
  have hml := length_mac s (chainB ++ encL [x, c])
  refine start 15 Tryd.func119 rfl rfl rfl fun a hk => ?_
  have hB : Ext w0 w0 := Below.refl _ _
  refine wp_seq_k fun K1 hK1 => ?_
  refine wp_region_lit ?_
  refine la hk rfl (a_alloc hk rfl zr44 fun a w b6 hk G => ?_)
  have hg_b6 : w0.heap.size ≤ b6 := Nat.le_trans hB.size G.ge
  have hB := ext_trans hB G.ext
  have h_b6 := G.at_
  clear G
  refine lnil (hK1 _ _ ?_)
  refine wp_seq_k fun K2 hK2 => ?_
  refine wp_region_lit ?_
  refine ls hk rfl rfl rfl (e_move hk rfl _) fun a hk => ?_
  refine ls hk rfl rfl rfl (e_move hk rfl _) fun a hk => ?_
  refine ls hk rfl rfl rfl (e_move hk rfl _) fun a hk => ?_
  refine la hk rfl (a_lit (cells := #[I (x), I (c)]) (zv := .int .i64 0) (sz := 1) (by_ := 8) hk rfl rfl Tryd.underlying45 el3 (by decide) (by decide) (lit2s _ _ rfl rfl _) rfl fun a w bi hk G => ?_)
  have n_b6_bi : b6 ≠ bi := G.ne h_b6
  have hg_bi : w0.heap.size ≤ bi := Nat.le_trans hB.size G.ge
  have h_b6 := ext_at G.ext h_b6
  have hB := ext_trans hB G.ext
  have h_bi := G.at_
  clear G
  have hRi : Ri w (some ⟨bi, 0, none⟩) 2 2 [x, c] := ri_lit (l := [x, c]) h_bi
  refine la hk rfl (a_call hk rfl rfl (c_fn hk rfl ok127) (c127 [x, c] h64 _ _ _ hRi (by simp)) ?_)
  rintro e w ⟨rfl, hE⟩
  refine ⟨_, rfl, fun a hk => ?_⟩
  have h_b6 := ext_at hE h_b6
  have h_bi := ext_at hE h_bi
  have hB := ext_trans hB hE
  clear hE
  refine ls hk rfl rfl rfl (e_sadd (s := chainB) (u := encL [x, c]) hk rfl rfl (by simp [chainB]; omega) _) fun a hk => ?_
  refine la hk rfl (a_call hk rfl rfl (c_fn hk rfl ok31) (c31 s (chainB ++ encL [x, c]) _ (hGR.ext hB) (by omega) (by simp [chainB]; omega)) ?_)
  rintro e w ⟨rfl, hE⟩
  refine ⟨_, rfl, fun a hk => ?_⟩
  have h_b6 := ext_at hE h_b6
  have h_bi := ext_at hE h_bi
  have hB := ext_trans hB hE
  clear hE
  refine la hk rfl (a_call hk rfl rfl (c_fn hk rfl ok89) (c89 (mac s (chainB ++ encL [x, c])) _ (by omega)) ?_)
  rintro e w ⟨rfl, hE⟩
  refine ⟨_, rfl, fun a hk => ?_⟩
  have h_b6 := ext_at hE h_b6
  have h_bi := ext_at hE h_bi
  have hB := ext_trans hB hE
  clear hE
  refine la hk rfl (a_st44 (l := startS s x c) hk rfl rfl (by simp) h_b6 rfl fun a w hk W => ?_)
  have h_bi := W.keep (Ne.symm n_b6_bi) h_bi
  have hB := W.below hB hg_b6
  have h_b6 := W.at_
  clear W
  refine lnil (hK2 _ _ ?_)
  refine wp_ret ?_
  exact ret44 (l := startS s x c) hk rfl rfl h_b6 (by simp) ⟨rfl, hB⟩

end Go.Proofs.YtidfbboalbchiaaDoor

namespace Go.Proofs.YtidfbboalbchiaaDoor
open Go Go.RowKit
section
variable {P : Program} {a : Act} {w : World} {N d : Nat} {L : Fm} {ty : TypeId} {pos : String} {af : Array Edge} {g : Option (Nat × Bool)} {v : Value} {x y z : Operand} {t t' e : TypeId} {K : Act → World → Prop} {dst : Option Tmp}
/-- append(s, x...) onto a slice that is nil or the call's own; where the row lies afterwards. -/
theorem a_app2 {base m c n sz by_ : Nat} {zv : Value} {xs news : List Value} {p : Addr} (hk : Kn a N L) (hN : Nat.blt d N = true) (hx : ov L x = some v) (hown : w.ownsRow base e sz v n xs) (hy : ov L y = some (.slice (some p) m c)) (hR : Rd w (some p) m c sz news) (h1 : ∀ u ∈ news, u.oneCell' = true)
    (ht : P.underlying t = some (.slice e)) (hz : El P e zv sz by_) (hzs : zv.cells.size = sz) (hsz : 0 < sz) (hm : (n + m) * by_ ≤ 140737488355328) (hm2 : n + m ≤ 140737488355328) (hm0 : 0 < m) (hb : base ≤ w.heap.size)
    (hK : ∀ a' w' v', Kn a' N ((d, v') :: L) → w'.ownsRow base e sz v' (n + m) (xs ++ news) → Kept w w' v → (∀ k, v'.ownBlock = some k → v.ownBlock = some k ∨ w.heap.size ≤ k) → K a' w') : acts P ⟨some d, .call { callee := .builtin .append, args := #[x, y], argTypes := #[t, t] }, ty, pos, af, g⟩ K a w := by
  unfold El at hz
  obtain ⟨inf, hq, hz1, hz2, hz3⟩ := info_parts hz
  have hcell : ∀ j u, news[j]? = some u → w.cell? (p.add j) = some u := fun j u hu => by
    obtain ⟨b, o, h1, h2⟩ := hR.2.2 j u hu
    cases h1
    rw [Addr.add_lit]; exact h2
  have h63 : n + m ≤ maxLen := by unfold maxLen; omega
  obtain ⟨v', w', hrun, ho, hg, _⟩ := run_append_own (P := P) w base t ty e inf zv sz by_ ht hq hz1 hz2 hz3 hzs hsz v n xs hown p m c news hR.1 hcell h1 h63 hm hb
  refine act_v hk rfl hN (v := v') (w' := w') (by simp [execOp, hk.op hx, hk.op hy, resolve, invoke, builtin, hrun]) fun a' hk' => hK a' w' v' hk' ho hg ?_
  subst hz2 hz3
  rcases hown.2 with ⟨rfl, rfl⟩ | ⟨gb, cap, cur, rfl, hbg, hgg, hnc, hcm, hcs, htake⟩
  · have hr := run_append_nil (P := P) w t ty e inf zv ht hq hz1 p m c news hR.1 hcell (by omega) (by unfold maxLen at h63; omega) (by simp only [Nat.zero_add] at hm; omega)
    rw [hrun] at hr
    cases hr
    intro k hk
    simp [Value.ownBlock] at hk
    exact .inr (by omega)
  · by_cases hroom : n + m ≤ cap
    · have hfit : n * inf.size + news.length ≤ cur.size := by rw [hR.1, hcs, ← Nat.add_mul]; exact Nat.mul_le_mul_right _ hroom
      have hr := run_append_room (P := P) w t ty e inf ht hq gb n cap cur hgg p m c news hR.1 hcell h1 hroom hfit
      rw [hrun] at hr
      cases hr
      intro k hk
      exact .inl (by simpa [Value.ownBlock] using hk)
    · have holds : ∀ j u, xs[j]? = some u → w.cell? ((⟨gb, 0, none⟩ : Addr).add j) = some u := hown.cells (g := gb) rfl
      have hr := run_append_grow (P := P) w t ty e inf zv ht hq hz1 ⟨gb, 0, none⟩ n cap xs hown.1 holds p m c news hR.1 hcell (by omega) (by unfold maxLen at h63; omega) (growslice_fits (by omega) hm)
      rw [hrun] at hr
      cases hr
      intro k hk
      simp [Value.ownBlock] at hk
      exact .inr (by omega)
end
/-- The cells of a list of digests. -/
def digs16 (s : List (List UInt8)) : List Value := (s.map fun d => d.map B).flatten
theorem digs16_snoc (s : List (List UInt8)) (d : List UInt8) : digs16 (s ++ [d]) = digs16 s ++ d.map B := by simp [digs16]
theorem length_digs16 : ∀ (s : List (List UInt8)), (∀ d ∈ s, d.length = 16) → (digs16 s).length = s.length * 16 := by
  intro s
  induction s with
  | nil => intro _; rfl
  | cons d r ih =>
    intro h
    have h1 := ih fun x hx => h x (List.mem_cons_of_mem _ hx)
    have h2 := h d (List.mem_cons_self ..)
    simp only [digs16, List.map_cons, List.flatten_cons, List.length_append, List.length_map, List.length_cons] at h1 ⊢
    omega
/-- A row of digests, read. -/
def Rdg (w : World) (ad : Option Addr) (n c : Nat) (s : List (List UInt8)) : Prop := Rd w ad n c 16 (digs16 s) ∧ ∀ d ∈ s, d.length = 16
theorem digs16_get : ∀ (s : List (List UInt8)), (∀ d ∈ s, d.length = 16) → ∀ i j, i < s.length → j < 16 → (digs16 s)[i * 16 + j]? = some (B ((s.getD i []).getD j 0)) := by
  intro s
  induction s with
  | nil => intro _ i j h; simp at h
  | cons d r ih =>
    intro h i j hi hj
    have h2 := h d (List.mem_cons_self ..)
    have e : digs16 (d :: r) = d.map B ++ digs16 r := by simp [digs16]
    rw [e]
    cases i with
    | zero => rw [List.getElem?_append_left (by simp; omega)]; simp [h2, hj]
    | succ i =>
      have h1 := ih (fun x hx => h x (List.mem_cons_of_mem _ hx)) i j (by simp at hi; omega) hj
      rw [List.getElem?_append_right (by simp; omega), List.length_map, h2, show (i + 1) * 16 + j - 16 = i * 16 + j by omega, h1]
      simp
theorem Rdg.len {w : World} {ad : Option Addr} {n c : Nat} {s : List (List UInt8)} (h : Rdg w ad n c s) : s.length = n := by
  have h1 := h.1.1
  rw [length_digs16 s h.2] at h1; omega
theorem Rdg.ext {w w' : World} {ad : Option Addr} {n c : Nat} {s : List (List UInt8)} (h : Rdg w ad n c s) (hE : Ext w w') : Rdg w' ad n c s := ⟨h.1.ext hE, h.2⟩
/-- The i-th digest's cells. -/
theorem Rdg.get {w : World} {ad : Option Addr} {n c : Nat} {s : List (List UInt8)} (h : Rdg w ad n c s) (i : Nat) (hi : i < n) : ∃ b o, ad = some ⟨b, o, none⟩ ∧ w.rangeAt b (o + i * 16) ((s.getD i []).map B) ∧ (s.getD i []).length = 16 := by
  have hl := h.len
  have hd : (s.getD i []).length = 16 := by
    have : s.getD i [] = s[i]'(by omega) := by simp [show i < s.length by omega]
    rw [this]; exact h.2 _ (List.getElem_mem _)
  obtain ⟨b, o, e, _⟩ := h.1.2.2 (i * 16 + 0) _ (digs16_get s h.2 i 0 (by omega) (by decide))
  refine ⟨b, o, e, fun j u hu => ?_, hd⟩
  have hg := fun hj => digs16_get s h.2 i j (by omega) hj
  generalize s.getD i [] = q at hd hu hg
  have hj : j < 16 := by
    have := (List.getElem?_eq_some_iff.1 hu).1
    simp only [List.length_map] at this
    omega
  have hu2 : u = B (q.getD j 0) := by
    rw [List.getElem?_map, List.getElem?_eq_getElem (by omega)] at hu
    simp only [Option.map_some, Option.some.injEq] at hu
    rw [← hu, List.getD_eq_getElem?_getD, List.getElem?_eq_getElem (by omega)]; rfl
  obtain ⟨b', o', e', hc⟩ := h.1.2.2 (i * 16 + j) _ (hg hj)
  rw [e] at e'
  cases e'
  rw [hu2, Nat.add_assoc]
  exact hc
theorem rdg_nil {w : World} {c : Nat} : Rdg w none 0 c [] := ⟨rd_none, by simp⟩
theorem rdg_own {w : World} {base : Nat} {v : Value} {s : List (List UInt8)} (h : w.ownsRow base 44 16 v s.length (digs16 s)) (hs : ∀ d ∈ s, d.length = 16) : ∃ ad c, v = .slice ad s.length c ∧ Rdg w ad s.length c s := by
  obtain ⟨ad, c, e, _, hR⟩ := Rd.of_own h
  exact ⟨ad, c, e, hR, hs⟩
theorem ones16 {s : List (List UInt8)} : ∀ u ∈ digs16 s, u.oneCell' = true := by
  intro u hu
  simp only [digs16, List.mem_flatten, List.mem_map] at hu
  obtain ⟨l, ⟨d, _, rfl⟩, hu⟩ := hu
  exact bytes_one d u hu
theorem fold_set (off : Nat) : ∀ (l : List Value) (k : Nat) (cs : Array Value), off + k + l.length ≤ cs.size → (l.zipIdx k).foldl (fun cs p => cs.setIfInBounds (off + p.2) p.1) cs = (cs.toList.take (off + k) ++ l ++ cs.toList.drop (off + k + l.length)).toArray := by
  intro l
  induction l with
  | nil => intro k cs _; simp
  | cons x r ih =>
    intro k cs h
    simp only [List.length_cons] at h
    rw [List.zipIdx_cons, List.foldl_cons, ih (k + 1) _ (by simp; omega)]
    have e : (cs.setIfInBounds (off + k) x).toList = cs.toList.set (off + k) x := by simp
    have h1 : off + k < cs.toList.length := by simp; omega
    simp only [e, List.length_cons]
    rw [show off + (k + 1) = off + k + 1 by omega, List.drop_set_of_lt (by omega), List.take_add_one, List.take_set_of_le (Nat.le_refl _), List.getElem?_set_self h1]
    rw [show off + k + 1 + r.length = off + k + (r.length + 1) by omega]
    simp
/-- One part of a literal or of a struct. -/
theorem fill_part (place : Nat → Option (Nat × Nat)) (cs : Array Value) (i : Nat) (v : Value) (l : List Value) (off size : Nat) (rest : List (Nat × Value)) (hp : place i = some (off, size)) (hv : v.cells = l.toArray) (hl : l.length = size) (hb : off + size ≤ cs.size) :
    Instr.fill place cs ((i, v) :: rest) = Instr.fill place (cs.toList.take off ++ l ++ cs.toList.drop (off + size)).toArray rest := by
  subst hl
  have hf := fold_set off l 0 cs (by simpa using hb)
  have hz : (v.cells.zipIdx.foldl (fun cs (c, j) => cs.setIfInBounds (off + j) c) cs) = (cs.toList.take off ++ l ++ cs.toList.drop (off + l.length)).toArray := by
    rw [hv, show l.toArray.zipIdx = (l.zipIdx).toArray by simp, List.foldl_toArray]
    simpa using hf
  rw [Instr.fill, hp]
  simp only
  rw [if_neg (by rw [hv]; simp; omega), hz]
/-- A literal of one digest. -/
theorem lit44 (z : Value) (_hz : z.cells.size = 16) (d : List UInt8) (hd : d.length = 16) : Instr.fill (fun i => some (i * 16, 16)) ((Array.range (1 * 16)).map (z.cells[· % z.cells.size]!)) [(0, D d)] = some (d.map B).toArray := by
  rw [fill_part _ _ 0 (D d) (d.map B) 0 16 [] rfl rfl (by simp [hd]) (by simp)]
  rw [Instr.fill, List.drop_of_length_le (by simp)]
  simp
end Go.Proofs.YtidfbboalbchiaaDoor

namespace Go.Proofs.YtidfbboalbchiaaDoor
open Go Go.RowKit

theorem fill_all (sz : Nat) : ∀ (vs : List Value) (k : Nat) (cs : Array Value), (∀ v ∈ vs, v.cells.size = sz) → (k + vs.length) * sz ≤ cs.size →
    Instr.fill (fun i => some (i * sz, sz)) cs ((vs.zipIdx k).map fun p => (p.2, p.1)) = some (cs.toList.take (k * sz) ++ vs.flatMap (fun v => v.cells.toList) ++ cs.toList.drop ((k + vs.length) * sz)).toArray := by
  intro vs
  induction vs with
  | nil => intro k cs _ _; simp [Instr.fill]
  | cons v vs ih =>
    intro k cs hv hs
    have h1 : (k + 1) * sz = k * sz + sz := Nat.succ_mul k sz
    have h2 : (k + (v :: vs).length) * sz = (k + 1 + vs.length) * sz := by rw [List.length_cons]; congr 1; omega
    have h3 : (k + 1 + vs.length) * sz = (k + 1) * sz + vs.length * sz := Nat.add_mul _ _ _
    have hv0 := hv v (by simp)
    rw [List.zipIdx_cons, List.map_cons, fill_part _ _ k v v.cells.toList (k * sz) sz _ rfl (by simp) (by simpa using hv0) (by omega)]
    have hl : (cs.toList.take (k * sz)).length = k * sz := by simp; omega
    have hl2 : v.cells.toList.length = sz := by simpa using hv0
    rw [ih (k + 1) _ (fun x hx => hv x (by simp [hx])) (by simp only [List.size_toArray, List.length_append, List.length_drop, hl, hl2, Array.length_toList]; omega)]
    congr 2
    simp only [List.flatMap_cons]
    have ha : (cs.toList.take (k * sz) ++ v.cells.toList ++ cs.toList.drop (k * sz + sz)).take ((k + 1) * sz) = cs.toList.take (k * sz) ++ v.cells.toList := by
      rw [List.take_left' (by rw [List.length_append, hl, hl2]; omega)]
    have hb : (cs.toList.take (k * sz) ++ v.cells.toList ++ cs.toList.drop (k * sz + sz)).drop ((k + 1 + vs.length) * sz) = cs.toList.drop ((k + (v :: vs).length) * sz) := by
      rw [h3, h1, ← List.drop_drop, List.drop_left' (by rw [List.length_append, hl, hl2]), List.drop_drop]
      congr 1; omega
    rw [ha, hb]; simp only [List.append_assoc]
/-- A literal row: its cells are its parts' cells. -/
theorem lit_all (sz : Nat) (vs : List Value) (hv : ∀ v ∈ vs, v.cells.size = sz) (n : Nat) (hn : vs.length = n) (z : Value) :
    Instr.fill (fun i => some (i * sz, sz)) ((Array.range (n * sz)).map (z.cells[· % z.cells.size]!)) ((vs.zipIdx 0).map fun p => (p.2, p.1)) = some (vs.flatMap fun v => v.cells.toList).toArray := by
  subst hn
  rw [fill_all sz vs 0 _ hv (by simp)]
  rw [List.drop_of_length_le (by simp)]
  simp
end Go.Proofs.YtidfbboalbchiaaDoor

namespace Go.Proofs.YtidfbboalbchiaaDoor
open Go Go.RowKit

theorem i_quoW (m n : Nat) (h : m ≤ 1000000000) : IntKind.i64.wrap ((m : Int).tdiv (n : Int)) = ((m / n : Nat) : Int) := by
  have e : (m : Int).tdiv (n : Int) = ((m / n : Nat) : Int) := rfl
  have h2 : m / n ≤ m := Nat.div_le_self m n
  rw [e]
  generalize m / n = q at h2 ⊢
  exact i64 (by omega) (by omega)
/-- 68 numbers. -/
def arrI (f : Nat → Int) : Array Value := (((List.range 68).map f).map I).toArray
theorem arrI_size (f : Nat → Int) : (arrI f).size = 68 := by simp [arrI]
theorem arrI_get (f : Nat → Int) (n : Nat) (h : n < 68) : (arrI f)[0 + n]? = some (I (f n)) := by simp [arrI, h]
theorem arrI_ext {f g : Nat → Int} (h : ∀ j, j < 68 → f j = g j) : arrI f = arrI g := by
  unfold arrI
  rw [List.map_congr_left fun j hj => h j (List.mem_range.1 hj)]
theorem arrI_set (f : Nat → Int) (n : Nat) (v : Int) : (arrI f).setIfInBounds (0 + n) (I v) = arrI (fun j => if j = n then v else f j) := by
  unfold arrI
  rw [Nat.zero_add]
  apply Array.ext'
  simp only [Array.toList_setIfInBounds, List.map_map]
  apply List.ext_getElem (by simp)
  intro i h1 h2
  simp only [List.getElem_set, List.getElem_map, List.getElem_range, Function.comp_apply]
  by_cases hi : n = i
  · subst hi; simp
  · rw [if_neg hi, if_neg (fun h => hi h.symm)]
theorem arrI_zero : (Value.agg (List.replicate 68 (Value.int .i64 0)).toArray).cells = arrI (fun _ => 0) := by
  unfold arrI
  rw [List.map_map]
  have : (List.range 68).map (I ∘ fun _ => (0 : Int)) = List.replicate 68 (Value.int .i64 0) := by
    rw [show (I ∘ fun _ => (0 : Int)) = (fun _ : Nat => Value.int .i64 0) from rfl, List.map_const', List.length_range]
  rw [this]
  rfl
def dA1 (d : List UInt8) (i : Nat) (j : Nat) : Int := if j < i then (dgt d j : Int) else 0
def dA2 (d : List UInt8) (k : Nat) (j : Nat) : Int := if j < 64 then (dgt d j : Int) else if 67 - k < j then ((sumD d 64 / 4 ^ (67 - j) % 4 : Nat) : Int) else 0
theorem dA1_set (d : List UInt8) (i : Nat) : (arrI (dA1 d i)).setIfInBounds (0 + i) (I (dgt d i)) = arrI (dA1 d (i + 1)) := by
  rw [arrI_set]
  apply arrI_ext
  intro j _
  unfold dA1
  by_cases h : j = i
  · subst h; rw [if_pos rfl, if_pos (by omega)]
  · rw [if_neg h]
    by_cases h2 : j < i
    · rw [if_pos h2, if_pos (by omega)]
    · rw [if_neg h2, if_neg (by omega)]
theorem dA1_all (d : List UInt8) : arrI (dA1 d 64) = arrI (dA2 d 0) := by
  apply arrI_ext
  intro j hj
  unfold dA1 dA2
  split
  · rfl
  · rw [if_neg (by omega)]
theorem dA2_set (d : List UInt8) (k : Nat) (hk : k < 4) : (arrI (dA2 d k)).setIfInBounds (0 + (67 - k)) (I ((sumD d 64 / 4 ^ k % 4 : Nat) : Int)) = arrI (dA2 d (k + 1)) := by
  rw [arrI_set]
  apply arrI_ext
  intro j hj
  unfold dA2
  by_cases h : j = 67 - k
  · subst h
    rw [if_pos rfl, if_neg (by omega), if_pos (by omega), show 67 - (67 - k) = k by omega]
  · rw [if_neg h]
    by_cases h64 : j < 64
    · rw [if_pos h64, if_pos h64]
    · rw [if_neg h64, if_neg h64]
      by_cases h2 : 67 - k < j
      · rw [if_pos h2, if_pos (by omega)]
      · rw [if_neg h2, if_neg (by omega)]
theorem dA2_all (d : List UInt8) : arrI (dA2 d 4) = ((digI d).map I).toArray := by
  unfold digI
  apply arrI_ext
  intro j hj
  unfold dA2 dig
  split
  · rfl
  · rw [if_pos (by omega)]
/-- What Digits returns. -/
def DigB (d : List UInt8) (w0 : World) (e : Ending) (w : World) : Prop := ∃ b, e = .returned (.slice (some ⟨b, 0, none⟩) 68 68) ∧ w0.heap.size ≤ b ∧ w.heap[b]? = some (.cells ((digI d).map I).toArray 105 (0, 0))
def DigRes (d : List UInt8) (e : Ending) (w : World) : Prop := ∃ ad c, e = .returned (.slice ad 68 c) ∧ Ri w ad 68 c (digI d)
theorem shr_dgt (x : UInt8) (r : Nat) (h : r < 4) : ((x.toNat : Int)).fdiv (2 ^ min ((6 - 2 * r : Nat) : Int).toNat (IntKind.u8).bits) = ((x.toNat / 4 ^ (3 - r) : Nat) : Int) := by
  rw [Int.toNat_natCast]
  have e : ((x.toNat : Nat) : Int).fdiv ((2 ^ (6 - 2 * r) : Nat) : Int) = ((x.toNat / 2 ^ (6 - 2 * r) : Nat) : Int) := (Int.ofNat_fdiv _ _).symm
  match r, h with
  | 0, _ => exact e
  | 1, _ => exact e
  | 2, _ => exact e
  | 3, _ => exact e
/-- The first digits. -/
def digP (d : List UInt8) (n : Nat) : List Int := (List.range n).map fun i => (dgt d i : Int)
theorem length_digP (d : List UInt8) (n : Nat) : (digP d n).length = n := by simp [digP]
theorem digP_succ (d : List UInt8) (n : Nat) : digP d (n + 1) = digP d n ++ [(dgt d n : Int)] := by simp [digP, List.range_succ]
def digQ (s : Nat) : List Int := [((s / 64 : Nat) : Int), ((s / 16 % 4 : Nat) : Int), ((s / 4 % 4 : Nat) : Int), ((s % 4 : Nat) : Int)]
theorem digP_all (d : List UInt8) : digP d 64 ++ digQ (sumD d 64) = digI d := by
  unfold digI digP digQ
  have hs := sumD_le d 64
  rw [show (68 : Nat) = 64 + 4 from rfl, List.range_add, List.map_append]
  have e1 : (List.range 64).map (fun i => (dig d i : Int)) = (List.range 64).map (fun i => (dgt d i : Int)) := by
    apply List.map_congr_left
    intro i hi
    unfold dig
    rw [if_pos (List.mem_range.1 hi)]
  rw [e1]
  have e : List.range 4 = [0, 1, 2, 3] := rfl
  rw [e]
  simp only [List.map_cons, List.map_nil, dig]
  rw [if_neg (by decide), if_neg (by decide), if_neg (by decide), if_neg (by decide)]
  simp only [show (4 : Nat) ^ (67 - (64 + 0)) = 64 from rfl, show (4 : Nat) ^ (67 - (64 + 1)) = 16 from rfl, show (4 : Nat) ^ (67 - (64 + 2)) = 4 from rfl, show (4 : Nat) ^ (67 - (64 + 3)) = 1 from rfl, Nat.div_one]
  rw [show sumD d 64 / 64 % 4 = sumD d 64 / 64 by omega]
theorem dgt_quad (d : List UInt8) (i : Nat) : (List.range 4).map (fun r => (dgt d (4 * i + r) : Int)) = digQ (d.getD i 0).toNat := by
  have e : List.range 4 = [0, 1, 2, 3] := rfl
  have hx : (d.getD i 0).toNat < 256 := (d.getD i 0).toNat_lt
  rw [e]
  unfold digQ dgt
  simp only [List.map_cons, List.map_nil, show (4 * i + 0) / 4 = i by omega, show (4 * i + 1) / 4 = i by omega, show (4 * i + 2) / 4 = i by omega, show (4 * i + 3) / 4 = i by omega, show (4 * i + 0) % 4 = 0 by omega, show (4 * i + 1) % 4 = 1 by omega, show (4 * i + 2) % 4 = 2 by omega, show (4 * i + 3) % 4 = 3 by omega,
    show (4 : Nat) ^ (3 - 0) = 64 from rfl, show (4 : Nat) ^ (3 - 1) = 16 from rfl, show (4 : Nat) ^ (3 - 2) = 4 from rfl, show (4 : Nat) ^ (3 - 3) = 1 from rfl, Nat.div_one]
  rw [show (d.getD i 0).toNat / 64 % 4 = (d.getD i 0).toNat / 64 by omega]

theorem ri_dig {w : World} {b : Nat} {t : TypeId} {fr : Nat × Nat} {d : List UInt8} (h : w.heap[b]? = some (.cells ((digI d).map I).toArray t fr)) : Ri w (some ⟨b, 0, none⟩) 68 68 (digI d) :=
  Rd.of_block h (by simp [digI]) (Nat.le_refl _) fun i hi => by rw [Nat.zero_add]; simp

set_option maxRecDepth 4000 in
set_option maxHeartbeats 1000000 in
theorem c34 (d : List UInt8) (hd : d.length = 16) (w0 : World) : Calls Tryd.prog 34 #[D d] w0 fun e w' => DigB d w0 e w' ∧ Ext w0 w' := by
  refine start 41 Tryd.func34 rfl rfl rfl fun a hk => ?_
  have hB : Ext w0 w0 := Below.refl _ _
  refine wp_seq_k fun K1 hK1 => ?_
  refine wp_region_lit ?_
  refine la hk rfl (a_box hk rfl rfl fun a w b1 hk G => ?_)
  have hg_b1 : w0.heap.size ≤ b1 := Nat.le_trans hB.size G.ge
  have hB := ext_trans hB G.ext
  have h_b1 := G.at_
  clear G
  refine ls hk rfl rfl rfl (e_assign hk rfl _) fun a hk => ?_
  refine lnil (hK1 _ _ ?_)
  refine wp_seq_k fun K2 hK2 => ?_
  refine wp_region_lit ?_
  refine la hk rfl (a_alloc hk rfl zr105 fun a w b3 hk G => ?_)
  have n_b1_b3 : b1 ≠ b3 := G.ne h_b1
  have hg_b3 : w0.heap.size ≤ b3 := Nat.le_trans hB.size G.ge
  have h_b1 := ext_at G.ext h_b1
  have hB := ext_trans hB G.ext
  have h_b3 := G.at_
  clear G
  refine lnil (hK2 _ _ ?_)
  refine wp_seq_k fun K3 hK3 => ?_
  rw [arrI_zero, show (arrI fun _ => 0) = arrI (dA1 d 0) from arrI_ext fun j _ => by unfold dA1; rw [if_neg (by omega)]] at h_b3
  refine wp_region_lit ?_
  refine ls hk rfl rfl rfl (e_assign hk rfl _) fun a hk => ?_
  refine lnil (hK3 _ _ ?_)
  refine wp_seq_k fun K4 hK4 => ?_
  refine wp_seq_k fun K5 hK5 => ?_
  refine wp_region_lit ?_
  refine ls hk rfl rfl rfl (e_move hk rfl _) fun a hk => ?_
  refine lnil (hK5 _ _ ?_)
  refine wp_block ?_
  refine loopN (fun n a w => ∃ i : Nat, n = 64 - i ∧ i ≤ 64 ∧ Kn a 41 [(1, .pointer (some ⟨b1, 0, none⟩)), (3, .pointer (some ⟨b3, 0, none⟩)), (4, I ((sumD d i : Nat) : Int)), (7, I i)] ∧ (Ext w0 w) ∧ (w.heap[b1]? = some (.cells (d.map B).toArray 44 (0, 0))) ∧ (w.heap[b3]? = some (.cells (arrI (dA1 d i)) 105 (0, 0)))) (64 - 0) ?_ fun n a w hI => ?_
  · exact ⟨0, rfl, by omega, hk.sub _ ⟨rfl, rfl, rfl, rfl, trivial⟩, hB, h_b1, h_b3⟩
  clear hk hB h_b1 h_b3
  obtain ⟨i, rfl, hi_le, hk, hB, h_b1, h_b3⟩ := hI
  refine wp_seq_k fun K6 hK6 => ?_
  refine wp_region_lit ?_
  refine ls hk rfl rfl rfl (e_lss hk rfl rfl rfl _) fun a hk => ?_
  refine lnil (hK6 _ _ ?_)
  refine wp_seq_k fun K7 hK7 => ?_
  refine cdB hk rfl (fun hb => ?_) (fun hb => ?_)
  · have hi64 : i < 64 := by have := of_decide_eq_true hb; omega
    have hsb := sumD_le d i
    have hdl := dgt_lt d i
    obtain ⟨y, hy, hyl⟩ : ∃ y, y = (d.getD (i / 4) 0).toNat / 4 ^ (3 - i % 4) ∧ y < 256 := ⟨_, rfl, Nat.lt_of_le_of_lt (Nat.div_le_self _ _) (d.getD (i / 4) 0).toNat_lt⟩
    have hr4 : i % 4 < 4 := Nat.mod_lt _ (by decide)
    refine wp_skip (hK7 _ _ ?_)
    refine wp_seq_k fun K8 hK8 => ?_
    refine wp_block ?_
    refine wp_seq_k fun K9 hK9 => ?_
    refine wp_region_lit ?_
    refine ls hk rfl rfl rfl (e_move hk rfl _) fun a hk => ?_
    refine ls hk rfl rfl rfl (e_assign hk rfl _) fun a hk => ?_
    refine lnil (hK9 _ _ ?_)
    refine wp_seq_k fun K10 hK10 => ?_
    refine wp_region_lit ?_
    refine ls hk rfl rfl rfl (e_move hk rfl _) fun a hk => ?_
    refine ls hk rfl rfl rfl (e_move hk rfl _) fun a hk => ?_
    refine ls hk rfl rfl rfl (e_quo (q := ((i / 4 : Nat) : Int)) hk rfl rfl (by decide) (i_quoW i 4 (by omega)) _) fun a hk => ?_
    refine ls hk rfl rfl rfl (e_idxA1 (i / 4) hk rfl rfl Tryd.underlying44 sz5 rfl (by omega) _) fun a hk => ?_
    refine ls hk rfl rfl rfl (r_load hk rfl Tryd.underlying5 rfl h_b1 (byte_at d (i / 4) (by omega))) fun a hk => ?_
    refine ls hk rfl rfl rfl (e_move hk rfl _) fun a hk => ?_
    refine ls hk rfl rfl rfl (e_rem (q := ((i % 4 : Nat) : Int)) hk rfl rfl (by decide) (i_rem i 4) _) fun a hk => ?_
    refine ls hk rfl rfl rfl (e_mul (q := ((2 * (i % 4) : Nat) : Int)) hk rfl rfl (by rw [i64 (by omega) (by omega)]; omega) _) fun a hk => ?_
    refine ls hk rfl rfl rfl (e_sub (q := ((6 - 2 * (i % 4) : Nat) : Int)) hk rfl rfl (by rw [i64 (by omega) (by omega)]; omega) _) fun a hk => ?_
    refine ls hk rfl rfl rfl (e_shr (q := (y : Int)) hk rfl rfl (by omega) (by rw [hy]; exact shr_dgt _ _ hr4) _) fun a hk => ?_
    refine ls hk rfl rfl rfl (e_conv (q := (y : Int)) hk rfl Tryd.underlying5 Tryd.underlying3 (i64 (by omega) (by omega)) _) fun a hk => ?_
    refine ls hk rfl rfl rfl (e_rem (q := ((dgt d i : Nat) : Int)) hk rfl rfl (by decide) (by rw [show dgt d i = y % 4 by rw [hy]; rfl]; exact i_rem y 4) _) fun a hk => ?_
    refine ls hk rfl rfl rfl (e_idxA1 i hk rfl rfl Tryd.underlying105 sz3 rfl (by omega) _) fun a hk => ?_
    refine la hk rfl (a_store hk rfl rfl rfl sz3 h_b3 (by rw [arrI_size]; omega) fun a w hk W => ?_)
    have h_b1 := W.keep n_b1_b3 h_b1
    have hB := W.below hB hg_b3
    have h_b3 := W.at_
    clear W
    rw [dA1_set] at h_b3
    refine lnil (hK10 _ _ ?_)
    refine wp_region_lit ?_
    refine ls hk rfl rfl rfl (e_move hk rfl _) fun a hk => ?_
    refine ls hk rfl rfl rfl (e_move hk rfl _) fun a hk => ?_
    refine ls hk rfl rfl rfl (e_idxA1 i hk rfl rfl Tryd.underlying105 sz3 rfl (by omega) _) fun a hk => ?_
    refine ls hk rfl rfl rfl (r_load (v := I ((dgt d i : Nat) : Int)) hk rfl Tryd.underlying3 rfl h_b3 (by rw [arrI_get _ _ (by omega)]; unfold dA1; rw [if_pos (by omega)])) fun a hk => ?_
    refine ls hk rfl rfl rfl (e_sub (q := ((3 - dgt d i : Nat) : Int)) hk rfl rfl (by rw [i64 (by omega) (by omega)]; omega) _) fun a hk => ?_
    refine ls hk rfl rfl rfl (e_add (q := ((sumD d (i + 1) : Nat) : Int)) hk rfl rfl (by rw [i64 (by omega) (by omega), show sumD d (i + 1) = sumD d i + (3 - dgt d i) from rfl]; omega) _) fun a hk => ?_
    refine ls hk rfl rfl rfl (e_assign hk rfl _) fun a hk => ?_
    refine lnil (hK8 _ _ ?_)
    refine wp_region_lit ?_
    refine ls hk rfl rfl rfl (e_add (q := ((i + 1 : Nat) : Int)) hk rfl rfl (by rw [i64 (by omega) (by omega)]; omega) _) fun a hk => ?_
    refine ls hk rfl rfl rfl (e_move hk rfl _) fun a hk => ?_
    refine lnil (show ∃ m : Nat, m < _ ∧ _ from ⟨64 - (i + 1), by omega, i + 1, rfl, by omega, hk.sub _ ⟨rfl, rfl, rfl, rfl, trivial⟩, hB, h_b1, h_b3⟩)
  · have hi64 : i = 64 := by have := of_decide_eq_false hb; omega
    subst hi64
    rw [dA1_all] at h_b3
    refine wp_exit (hK4 _ _ ?_)
    refine wp_seq_k fun K11 hK11 => ?_
    refine wp_seq_k fun K12 hK12 => ?_
    refine wp_region_lit ?_
    refine ls hk rfl rfl rfl (e_assign hk rfl _) fun a hk => ?_
    refine lnil (hK12 _ _ ?_)
    refine wp_block ?_
    refine loopN (fun n a w => ∃ k : Nat, n = 4 - k ∧ k ≤ 4 ∧ Kn a 41 [(3, .pointer (some ⟨b3, 0, none⟩)), (4, I ((sumD d 64 / 4 ^ k : Nat) : Int)), (6, I ((67 - k : Nat) : Int))] ∧ (Ext w0 w) ∧ (w.heap[b3]? = some (.cells (arrI (dA2 d k)) 105 (0, 0)))) (4 - 0) ?_ fun n a w hI => ?_
    · have hk := hk.lift 4 (v := I ((sumD d 64 / 4 ^ 0 : Nat) : Int)) (by rw [Nat.pow_zero, Nat.div_one]; rfl)
      exact ⟨0, rfl, by omega, hk.sub _ ⟨rfl, rfl, rfl, trivial⟩, hB, h_b3⟩
    clear hk hB h_b3
    obtain ⟨k, rfl, hi_le, hk, hB, h_b3⟩ := hI
    refine wp_seq_k fun K13 hK13 => ?_
    refine wp_seq_k fun K14 hK14 => ?_
    refine wp_region_lit ?_
    refine ls hk rfl rfl rfl (e_move hk rfl _) fun a hk => ?_
    refine ls hk rfl rfl rfl (e_geq (b := decide (k < 4)) hk rfl rfl (by simp only [ge_iff_le, decide_eq_decide]; omega) _) fun a hk => ?_
    refine lnil (hK14 _ _ ?_)
    refine cdB hk rfl (fun hb => ?_) (fun hb => ?_)
    · have hsb := sumD_le d 64
      have hs4 : sumD d 64 / 4 ^ k ≤ sumD d 64 := Nat.div_le_self _ _
      have hk4 : k < 4 := of_decide_eq_true hb
      refine wp_skip (hK13 _ _ ?_)
      refine wp_seq_k fun K15 hK15 => ?_
      refine wp_block ?_
      refine wp_seq_k fun K16 hK16 => ?_
      refine wp_region_lit ?_
      refine ls hk rfl rfl rfl (e_move hk rfl _) fun a hk => ?_
      refine ls hk rfl rfl rfl (e_move hk rfl _) fun a hk => ?_
      refine ls hk rfl rfl rfl (e_rem (q := ((sumD d 64 / 4 ^ k % 4 : Nat) : Int)) hk rfl rfl (by decide) (i_rem (sumD d 64 / 4 ^ k) 4) _) fun a hk => ?_
      refine ls hk rfl rfl rfl (e_idxA1 (67 - k) hk rfl rfl Tryd.underlying105 sz3 rfl (by omega) _) fun a hk => ?_
      refine la hk rfl (a_store hk rfl rfl rfl sz3 h_b3 (by rw [arrI_size]; omega) fun a w hk W => ?_)
      have hB := W.below hB hg_b3
      have h_b3 := W.at_
      clear W
      rw [dA2_set d k hk4] at h_b3
      refine lnil (hK16 _ _ ?_)
      refine wp_region_lit ?_
      refine ls hk rfl rfl rfl (e_move hk rfl _) fun a hk => ?_
      refine ls hk rfl rfl rfl (e_quo (q := ((sumD d 64 / 4 ^ (k + 1) : Nat) : Int)) hk rfl rfl (by decide) (by rw [Nat.pow_succ, ← Nat.div_div_eq_div_mul]; exact i_quoW _ 4 (by omega)) _) fun a hk => ?_
      refine ls hk rfl rfl rfl (e_assign hk rfl _) fun a hk => ?_
      refine lnil (hK15 _ _ ?_)
      refine wp_region_lit ?_
      refine ls hk rfl rfl rfl (e_move hk rfl _) fun a hk => ?_
      refine ls hk rfl rfl rfl (e_sub (q := ((67 - (k + 1) : Nat) : Int)) hk rfl rfl (by rw [i64 (by omega) (by omega)]; omega) _) fun a hk => ?_
      refine ls hk rfl rfl rfl (e_assign hk rfl _) fun a hk => ?_
      refine lnil (show ∃ m : Nat, m < _ ∧ _ from ⟨4 - (k + 1), by omega, k + 1, rfl, by omega, hk.sub _ ⟨rfl, rfl, rfl, trivial⟩, hB, h_b3⟩)
    · have hsb := sumD_le d 64
      have hs4 : sumD d 64 / 4 ^ k ≤ sumD d 64 := Nat.div_le_self _ _
      have hk4 : k = 4 := by have := of_decide_eq_false hb; omega
      subst hk4
      rw [dA2_all] at h_b3
      refine wp_exit (hK11 _ _ ?_)
      refine wp_seq_k fun K17 hK17 => ?_
      refine wp_region_lit ?_
      refine ls hk rfl rfl rfl (e_slA hk rfl Tryd.underlying105 sz3 _) fun a hk => ?_
      refine ls hk rfl rfl rfl (e_assign hk rfl _) fun a hk => ?_
      refine lnil (hK17 _ _ ?_)
      refine wp_ret ?_
      exact ret1 hk rfl rfl ⟨⟨_, rfl, hg_b3, h_b3⟩, hB⟩

theorem ones_int (l : List Int) : ∀ u ∈ l.map I, u.oneCell' = true := fun u hu => by
  obtain ⟨x, _, rfl⟩ := List.mem_map.1 hu; rfl
theorem digQ_get (d : List UInt8) (i k : Nat) (h : k < 4) : ((digQ (d.getD i 0).toNat).map I).toArray[0 + k]? = some (I ((dgt d (4 * i + k) : Nat) : Int)) := by
  rw [← dgt_quad, Nat.zero_add]
  simp [h]

set_option maxRecDepth 4000 in
set_option maxHeartbeats 1000000 in
theorem c60 (d : List UInt8) (hd : d.length = 16) (w0 : World) : Calls Tryd.prog 60 #[D d] w0 fun e w' => DigRes d e w' ∧ Ext w0 w' := by
  refine start 59 Tryd.func60 rfl rfl rfl fun a hk => ?_
  have hB : Ext w0 w0 := Below.refl _ _
  refine wp_seq_k fun K1 hK1 => ?_
  refine wp_region_lit ?_
  refine la hk rfl (a_box hk rfl rfl fun a w b1 hk G => ?_)
  have hg_b1 : w0.heap.size ≤ b1 := Nat.le_trans hB.size G.ge
  have hB := ext_trans hB G.ext
  have h_b1 := G.at_
  clear G
  refine ls hk rfl rfl rfl (e_assign hk rfl _) fun a hk => ?_
  refine lnil (hK1 _ _ ?_)
  refine wp_seq_k fun K2 hK2 => ?_
  refine wp_region_lit ?_
  refine ls hk rfl rfl rfl (e_assign hk rfl _) fun a hk => ?_
  refine lnil (hK2 _ _ ?_)
  refine wp_seq_k fun K3 hK3 => ?_
  refine wp_region_lit ?_
  refine ls hk rfl rfl rfl (e_assign hk rfl _) fun a hk => ?_
  refine lnil (hK3 _ _ ?_)
  refine wp_seq_k fun K4 hK4 => ?_
  refine wp_seq_k fun K5 hK5 => ?_
  refine wp_region_lit ?_
  refine ls hk rfl rfl rfl (e_assign hk rfl _) fun a hk => ?_
  refine lnil (hK5 _ _ ?_)
  refine wp_block ?_
  refine loopN (fun n a w => ∃ i : Nat, ∃ (v : Value), n = 16 - i ∧ i ≤ 16 ∧ Kn a 59 [(1, .pointer (some ⟨b1, 0, none⟩)), (3, v), (4, I ((sumD d (4 * i) : Nat) : Int)), (5, I i)] ∧ (Ext w0 w) ∧ (w.heap[b1]? = some (.cells (d.map B).toArray 44 (0, 0))) ∧ (w.ownsRow w0.heap.size 3 1 v (4 * i) ((digP d (4 * i)).map I)) ∧ (v.ownBlock ≠ some b1)) (16 - 0) ?_ fun n a w hI => ?_
  · exact ⟨0, .slice none 0 0, rfl, by omega, hk.sub _ ⟨rfl, rfl, rfl, rfl, trivial⟩, hB, h_b1, ⟨rfl, .inl ⟨rfl, rfl⟩⟩, (by simp [Value.ownBlock])⟩
  clear hk hB h_b1
  obtain ⟨i, v, rfl, hi_le, hk, hB, h_b1, hown, k_hown_b1⟩ := hI
  refine wp_seq_k fun K6 hK6 => ?_
  refine wp_seq_k fun K7 hK7 => ?_
  refine wp_region_lit ?_
  refine ls hk rfl rfl rfl (e_move hk rfl _) fun a hk => ?_
  refine ls hk rfl rfl rfl (e_lss hk rfl rfl rfl _) fun a hk => ?_
  refine lnil (hK7 _ _ ?_)
  refine cdB hk rfl (fun hb => ?_) (fun hb => ?_)
  · have hi16 : i < 16 := by have := of_decide_eq_true hb; omega
    have hyl : (d.getD i 0).toNat < 256 := (d.getD i 0).toNat_lt
    refine wp_skip (hK6 _ _ ?_)
    refine wp_seq_k fun K8 hK8 => ?_
    refine wp_block ?_
    refine wp_seq_k fun K9 hK9 => ?_
    refine wp_region_lit ?_
    refine ls hk rfl rfl rfl (e_move hk rfl _) fun a hk => ?_
    refine ls hk rfl rfl rfl (e_idxA1 i hk rfl rfl Tryd.underlying44 sz5 rfl (by omega) _) fun a hk => ?_
    refine ls hk rfl rfl rfl (r_load hk rfl Tryd.underlying5 rfl h_b1 (byte_at d i (by omega))) fun a hk => ?_
    refine ls hk rfl rfl rfl (e_conv (q := (((d.getD i 0).toNat : Nat) : Int)) hk rfl Tryd.underlying5 Tryd.underlying3 (i64 (by omega) (by omega)) _) fun a hk => ?_
    refine ls hk rfl rfl rfl (e_assign hk rfl _) fun a hk => ?_
    refine lnil (hK9 _ _ ?_)
    refine wp_seq_k fun K10 hK10 => ?_
    refine wp_region_lit ?_
    refine ls hk rfl rfl rfl (e_move hk rfl _) fun a hk => ?_
    refine ls hk rfl rfl rfl (e_quo (q := (((d.getD i 0).toNat / 64 : Nat) : Int)) hk rfl rfl (by decide) (i_quoW (d.getD i 0).toNat 64 (by omega)) _) fun a hk => ?_
    refine ls hk rfl rfl rfl (e_move hk rfl _) fun a hk => ?_
    refine ls hk rfl rfl rfl (e_quo (q := (((d.getD i 0).toNat / 16 : Nat) : Int)) hk rfl rfl (by decide) (i_quoW (d.getD i 0).toNat 16 (by omega)) _) fun a hk => ?_
    refine ls hk rfl rfl rfl (e_rem (q := (((d.getD i 0).toNat / 16 % 4 : Nat) : Int)) hk rfl rfl (by decide) (i_rem ((d.getD i 0).toNat / 16) 4) _) fun a hk => ?_
    refine ls hk rfl rfl rfl (e_move hk rfl _) fun a hk => ?_
    refine ls hk rfl rfl rfl (e_quo (q := (((d.getD i 0).toNat / 4 : Nat) : Int)) hk rfl rfl (by decide) (i_quoW (d.getD i 0).toNat 4 (by omega)) _) fun a hk => ?_
    refine ls hk rfl rfl rfl (e_rem (q := (((d.getD i 0).toNat / 4 % 4 : Nat) : Int)) hk rfl rfl (by decide) (i_rem ((d.getD i 0).toNat / 4) 4) _) fun a hk => ?_
    refine ls hk rfl rfl rfl (e_move hk rfl _) fun a hk => ?_
    refine ls hk rfl rfl rfl (e_rem (q := (((d.getD i 0).toNat % 4 : Nat) : Int)) hk rfl rfl (by decide) (i_rem (d.getD i 0).toNat 4) _) fun a hk => ?_
    refine la hk rfl (a_lit (cells := (((digQ (d.getD i 0).toNat).map I).toArray)) (zv := .int .i64 0) (sz := 1) (by_ := 8) hk rfl rfl Tryd.underlying45 el3 (by decide) (by decide) (by have h := lit_all 1 [I (((d.getD i 0).toNat / 64 : Nat) : Int), I (((d.getD i 0).toNat / 16 % 4 : Nat) : Int), I (((d.getD i 0).toNat / 4 % 4 : Nat) : Int), I (((d.getD i 0).toNat % 4 : Nat) : Int)] (by simp [Value.cells]) 4 rfl (.int .i64 0); exact h.trans (congrArg some (by simp [Value.cells, digQ]))) (by simp [digQ]) fun a w b7 hk G => ?_)
    have n_b1_b7 : b1 ≠ b7 := G.ne h_b1
    have k_hown_b7 := own_ne hown G
    have hg_b7 : w0.heap.size ≤ b7 := Nat.le_trans hB.size G.ge
    have h_b1 := ext_at G.ext h_b1
    have hown := own_ext hown G.ext
    have hB := ext_trans hB G.ext
    have h_b7 := G.at_
    clear G
    refine ls hk rfl rfl rfl (e_assign hk rfl _) fun a hk => ?_
    refine lnil (hK10 _ _ ?_)
    refine wp_seq_k fun K11 hK11 => ?_
    refine wp_region_lit ?_
    refine ls hk rfl rfl rfl (e_assign hk rfl _) fun a hk => ?_
    refine lnil (hK11 _ _ ?_)
    refine wp_block ?_
    refine loopN (fun n a w => ∃ k : Nat, ∃ (v : Value), n = 4 - k ∧ k ≤ 4 ∧ Kn a 59 [(1, .pointer (some ⟨b1, 0, none⟩)), (3, v), (4, I ((sumD d (4 * i + k) : Nat) : Int)), (5, I i), (7, .slice (some ⟨b7, 0, none⟩) 4 4), (8, I k)] ∧ (Ext w0 w) ∧ (w.heap[b1]? = some (.cells (d.map B).toArray 44 (0, 0))) ∧ (w.heap[b7]? = some (.cells ((digQ (d.getD i 0).toNat).map I).toArray 3 (0, 0))) ∧ (w.ownsRow w0.heap.size 3 1 v (4 * i + k) ((digP d (4 * i + k)).map I)) ∧ (v.ownBlock ≠ some b1) ∧ (v.ownBlock ≠ some b7)) (4 - 0) ?_ fun n a w hI => ?_
    · exact ⟨0, v, rfl, by omega, hk.sub _ ⟨rfl, rfl, rfl, rfl, rfl, rfl, trivial⟩, hB, h_b1, h_b7, hown, k_hown_b1, k_hown_b7⟩
    clear hk hB h_b1 h_b7 hown k_hown_b1 k_hown_b7
    obtain ⟨k, v, rfl, hi_le, hk, hB, h_b1, h_b7, hown, k_hown_b1, k_hown_b7⟩ := hI
    refine wp_seq_k fun K12 hK12 => ?_
    refine wp_seq_k fun K13 hK13 => ?_
    refine wp_region_lit ?_
    refine ls hk rfl rfl rfl (e_move hk rfl _) fun a hk => ?_
    refine ls hk rfl rfl rfl (e_lss hk rfl rfl rfl _) fun a hk => ?_
    refine lnil (hK13 _ _ ?_)
    refine cdB hk rfl (fun hb => ?_) (fun hb => ?_)
    · have hk4 : k < 4 := by have := of_decide_eq_true hb; omega
      have hsb := sumD_le d (4 * i + k)
      have hdl := dgt_lt d (4 * i + k)
      refine wp_skip (hK12 _ _ ?_)
      refine wp_seq_k fun K14 hK14 => ?_
      refine wp_block ?_
      refine wp_seq_k fun K15 hK15 => ?_
      refine wp_region_lit ?_
      refine ls hk rfl rfl rfl (e_move hk rfl _) fun a hk => ?_
      refine ls hk rfl rfl rfl (e_move hk rfl _) fun a hk => ?_
      refine ls hk rfl rfl rfl (e_move hk rfl _) fun a hk => ?_
      refine ls hk rfl rfl rfl (e_idxS1 k hk rfl rfl Tryd.underlying45 sz3 rfl hk4 _) fun a hk => ?_
      refine ls hk rfl rfl rfl (r_load (v := I ((dgt d (4 * i + k) : Nat) : Int)) hk rfl Tryd.underlying3 rfl h_b7 (digQ_get d i k hk4)) fun a hk => ?_
      refine la hk rfl (a_lit (cells := #[I ((dgt d (4 * i + k) : Nat) : Int)]) (zv := .int .i64 0) (sz := 1) (by_ := 8) hk rfl rfl Tryd.underlying45 el3 (by decide) (by decide) (lit1s _ rfl _) rfl fun a w bn hk G => ?_)
      have n_b1_bn : b1 ≠ bn := G.ne h_b1
      have n_b7_bn : b7 ≠ bn := G.ne h_b7
      have k_hown_bn := own_ne hown G
      have hg_bn : w0.heap.size ≤ bn := Nat.le_trans hB.size G.ge
      have h_b1 := ext_at G.ext h_b1
      have h_b7 := ext_at G.ext h_b7
      have hown := own_ext hown G.ext
      have hB := ext_trans hB G.ext
      have h_bn := G.at_
      clear G
      have hRn : Ri w (some ⟨bn, 0, none⟩) 1 1 [((dgt d (4 * i + k) : Nat) : Int)] := ri_lit (l := [((dgt d (4 * i + k) : Nat) : Int)]) h_bn
      refine la hk rfl (a_app2 (news := [((dgt d (4 * i + k) : Nat) : Int)].map I) (by_ := 8) hk rfl rfl hown rfl hRn (ones_int _) Tryd.underlying45 el3 rfl (by decide) (by omega) (by omega) (by decide) hB.size fun a w v hk hown2 hKp hloc => ?_)
      have n_v_b1 : v.ownBlock ≠ some b1 := fun e => (hloc _ e).elim k_hown_b1 (fun h => absurd (heap_lt h_b1) (Nat.not_lt.2 h))
      have n_v_b7 : v.ownBlock ≠ some b7 := fun e => (hloc _ e).elim k_hown_b7 (fun h => absurd (heap_lt h_b7) (Nat.not_lt.2 h))
      have n_v_bn : v.ownBlock ≠ some bn := fun e => (hloc _ e).elim k_hown_bn (fun h => absurd (heap_lt h_bn) (Nat.not_lt.2 h))
      have h_b1 := kept_at hKp hown k_hown_b1 h_b1
      have h_b7 := kept_at hKp hown k_hown_b7 h_b7
      have h_bn := kept_at hKp hown k_hown_bn h_bn
      have hB := kept_below hKp hB hown (Nat.le_refl _) hB.size
      have k_hown_b1 := n_v_b1
      have k_hown_b7 := n_v_b7
      have k_hown_bn := n_v_bn
      clear hown hKp hloc
      have hown := hown2
      clear hown2
      rw [← List.map_append, ← digP_succ, Nat.add_assoc] at hown
      refine ls hk rfl rfl rfl (e_assign hk rfl _) fun a hk => ?_
      refine lnil (hK15 _ _ ?_)
      refine wp_region_lit ?_
      refine ls hk rfl rfl rfl (e_move hk rfl _) fun a hk => ?_
      refine ls hk rfl rfl rfl (e_add (q := ((sumD d (4 * i + k) + 3 : Nat) : Int)) hk rfl rfl (by rw [i64 (by omega) (by omega)]; omega) _) fun a hk => ?_
      refine ls hk rfl rfl rfl (e_move hk rfl _) fun a hk => ?_
      refine ls hk rfl rfl rfl (e_move hk rfl _) fun a hk => ?_
      refine ls hk rfl rfl rfl (e_idxS1 k hk rfl rfl Tryd.underlying45 sz3 rfl hk4 _) fun a hk => ?_
      refine ls hk rfl rfl rfl (r_load (v := I ((dgt d (4 * i + k) : Nat) : Int)) hk rfl Tryd.underlying3 rfl h_b7 (digQ_get d i k hk4)) fun a hk => ?_
      refine ls hk rfl rfl rfl (e_sub (q := ((sumD d (4 * i + (k + 1)) : Nat) : Int)) hk rfl rfl (by rw [i64 (by omega) (by omega), show 4 * i + (k + 1) = (4 * i + k) + 1 by omega, show sumD d (4 * i + k + 1) = sumD d (4 * i + k) + (3 - dgt d (4 * i + k)) from rfl]; omega) _) fun a hk => ?_
      refine ls hk rfl rfl rfl (e_assign hk rfl _) fun a hk => ?_
      refine lnil (hK14 _ _ ?_)
      refine wp_region_lit ?_
      refine ls hk rfl rfl rfl (e_move hk rfl _) fun a hk => ?_
      refine ls hk rfl rfl rfl (e_add (q := ((k + 1 : Nat) : Int)) hk rfl rfl (by rw [i64 (by omega) (by omega)]; omega) _) fun a hk => ?_
      refine ls hk rfl rfl rfl (e_assign hk rfl _) fun a hk => ?_
      refine lnil (show ∃ m : Nat, m < _ ∧ _ from ⟨4 - (k + 1), by omega, k + 1, _, rfl, by omega, hk.sub _ ⟨rfl, rfl, rfl, rfl, rfl, rfl, trivial⟩, hB, h_b1, h_b7, hown, k_hown_b1, k_hown_b7⟩)
    · have hk4 : k = 4 := by have := of_decide_eq_false hb; omega
      subst hk4
      refine wp_exit (hK8 _ _ ?_)
      refine wp_region_lit ?_
      refine ls hk rfl rfl rfl (e_move hk rfl _) fun a hk => ?_
      refine ls hk rfl rfl rfl (e_add (q := ((i + 1 : Nat) : Int)) hk rfl rfl (by rw [i64 (by omega) (by omega)]; omega) _) fun a hk => ?_
      refine ls hk rfl rfl rfl (e_assign hk rfl _) fun a hk => ?_
      refine lnil (show ∃ m : Nat, m < _ ∧ _ from ⟨16 - (i + 1), by omega, i + 1, _, rfl, by omega, hk.sub _ ⟨rfl, rfl, rfl, rfl, trivial⟩, hB, h_b1, hown, k_hown_b1⟩)
  · have hi16 : i = 16 := by have := of_decide_eq_false hb; omega
    subst hi16
    have hsb := sumD_le d 64
    refine wp_exit (hK4 _ _ ?_)
    refine wp_seq_k fun K16 hK16 => ?_
    refine wp_region_lit ?_
    refine ls hk rfl rfl rfl (e_move hk rfl _) fun a hk => ?_
    refine ls hk rfl rfl rfl (e_move hk rfl _) fun a hk => ?_
    refine ls hk rfl rfl rfl (e_quo (q := ((sumD d 64 / 64 : Nat) : Int)) hk rfl rfl (by decide) (i_quoW (sumD d 64) 64 (by omega)) _) fun a hk => ?_
    refine ls hk rfl rfl rfl (e_move hk rfl _) fun a hk => ?_
    refine ls hk rfl rfl rfl (e_quo (q := ((sumD d 64 / 16 : Nat) : Int)) hk rfl rfl (by decide) (i_quoW (sumD d 64) 16 (by omega)) _) fun a hk => ?_
    refine ls hk rfl rfl rfl (e_rem (q := ((sumD d 64 / 16 % 4 : Nat) : Int)) hk rfl rfl (by decide) (i_rem (sumD d 64 / 16) 4) _) fun a hk => ?_
    refine ls hk rfl rfl rfl (e_move hk rfl _) fun a hk => ?_
    refine ls hk rfl rfl rfl (e_quo (q := ((sumD d 64 / 4 : Nat) : Int)) hk rfl rfl (by decide) (i_quoW (sumD d 64) 4 (by omega)) _) fun a hk => ?_
    refine ls hk rfl rfl rfl (e_rem (q := ((sumD d 64 / 4 % 4 : Nat) : Int)) hk rfl rfl (by decide) (i_rem (sumD d 64 / 4) 4) _) fun a hk => ?_
    refine ls hk rfl rfl rfl (e_move hk rfl _) fun a hk => ?_
    refine ls hk rfl rfl rfl (e_rem (q := ((sumD d 64 % 4 : Nat) : Int)) hk rfl rfl (by decide) (i_rem (sumD d 64) 4) _) fun a hk => ?_
    refine la hk rfl (a_lit (cells := (((digQ (sumD d 64)).map I).toArray)) (zv := .int .i64 0) (sz := 1) (by_ := 8) hk rfl rfl Tryd.underlying45 el3 (by decide) (by decide) (by have h := lit_all 1 [I ((sumD d 64 / 64 : Nat) : Int), I ((sumD d 64 / 16 % 4 : Nat) : Int), I ((sumD d 64 / 4 % 4 : Nat) : Int), I ((sumD d 64 % 4 : Nat) : Int)] (by simp [Value.cells]) 4 rfl (.int .i64 0); exact h.trans (congrArg some (by simp [Value.cells, digQ]))) (by simp [digQ]) fun a w bq hk G => ?_)
    have n_b1_bq : b1 ≠ bq := G.ne h_b1
    have k_hown_bq := own_ne hown G
    have hg_bq : w0.heap.size ≤ bq := Nat.le_trans hB.size G.ge
    have h_b1 := ext_at G.ext h_b1
    have hown := own_ext hown G.ext
    have hB := ext_trans hB G.ext
    have h_bq := G.at_
    clear G
    have hRq : Ri w (some ⟨bq, 0, none⟩) 4 4 (digQ (sumD d 64)) := ri_lit (l := digQ (sumD d 64)) h_bq
    refine la hk rfl (a_app2 (news := (digQ (sumD d 64)).map I) (by_ := 8) hk rfl rfl hown rfl hRq (ones_int _) Tryd.underlying45 el3 rfl (by decide) (by decide) (by decide) (by decide) hB.size fun a w v hk hown2 hKp hloc => ?_)
    have n_v_b1 : v.ownBlock ≠ some b1 := fun e => (hloc _ e).elim k_hown_b1 (fun h => absurd (heap_lt h_b1) (Nat.not_lt.2 h))
    have n_v_bq : v.ownBlock ≠ some bq := fun e => (hloc _ e).elim k_hown_bq (fun h => absurd (heap_lt h_bq) (Nat.not_lt.2 h))
    have h_b1 := kept_at hKp hown k_hown_b1 h_b1
    have h_bq := kept_at hKp hown k_hown_bq h_bq
    have hB := kept_below hKp hB hown (Nat.le_refl _) hB.size
    have k_hown_b1 := n_v_b1
    have k_hown_bq := n_v_bq
    clear hown hKp hloc
    have hown := hown2
    clear hown2
    rw [← List.map_append, digP_all] at hown
    refine ls hk rfl rfl rfl (e_assign hk rfl _) fun a hk => ?_
    refine lnil (hK16 _ _ ?_)
    refine wp_ret ?_
    obtain ⟨ad, c, rfl, _, hR⟩ := Rd.of_own hown
    exact ret1 hk rfl rfl ⟨⟨_, _, rfl, hR⟩, hB⟩

end Go.Proofs.YtidfbboalbchiaaDoor
