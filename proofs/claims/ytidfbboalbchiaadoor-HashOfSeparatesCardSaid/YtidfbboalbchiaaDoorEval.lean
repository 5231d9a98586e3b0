/- SHA-256 computed on natural numbers, in a form that the kernel computes fast, and that it is the plain one. No program in it. -/
import Derived.Test.YtidfbboalbchiaaDoorMsg
import Derived.KernelRfl
namespace Go.Proofs.YtidfbboalbchiaaDoor

/-- The number, computed first. -/
def fc {α : Type} (n : Nat) (k : Nat → α) : α := match n with
  | 0 => k 0
  | m + 1 => k (m + 1)
theorem fc_eq {α : Type} (n : Nat) (k : Nat → α) : fc n k = k n := by cases n <;> rfl
def rN (x n : Nat) : Nat := (x <<< (32 - n)) % 4294967296 ||| (x >>> n)
def sg0N (x : Nat) : Nat := rN x 7 ^^^ rN x 18 ^^^ (x >>> 3)
def sg1N (x : Nat) : Nat := rN x 17 ^^^ rN x 19 ^^^ (x >>> 10)
def wnN (w0 w1 w9 w14 : Nat) : Nat := (w0 + sg0N w1 + w9 + sg1N w14) % 4294967296
def xN (k w e f g h : Nat) : Nat := (h + (rN e 6 ^^^ rN e 11 ^^^ rN e 25) + ((e &&& f) ^^^ ((4294967295 - e) &&& g)) + k + w) % 4294967296
def yN (a b c : Nat) : Nat := ((rN a 2 ^^^ rN a 13 ^^^ rN a 22) + ((a &&& b) ^^^ (a &&& c) ^^^ (b &&& c))) % 4294967296
def kcN : List Nat := kc.map (·.toNat)
def goN {α : Type} : List Nat → (Nat → Nat → Nat → Nat → Nat → Nat → Nat → Nat → Nat → Nat → Nat → Nat → Nat → Nat → Nat → Nat → Nat → Nat → Nat → Nat → Nat → Nat → Nat → Nat → (Nat → Nat → Nat → Nat → Nat → Nat → Nat → Nat → α) → α)
  | [], _, _, _, _, _, _, _, _, _, _, _, _, _, _, _, _, a, b, c, d, e, f, g, h, k => k a b c d e f g h
  | kk :: ks, w0, w1, w2, w3, w4, w5, w6, w7, w8, w9, w10, w11, w12, w13, w14, w15, a, b, c, d, e, f, g, h, k => fc (xN kk w0 e f g h) fun x => fc ((x + yN a b c) % 4294967296) fun a' => fc ((d + x) % 4294967296) fun e' => fc (wnN w0 w1 w9 w14) fun w16 =>
    goN ks w1 w2 w3 w4 w5 w6 w7 w8 w9 w10 w11 w12 w13 w14 w15 w16 a' a b c e' e f g k

/-- A block's words, one after another. -/
def wdt (b : List UInt8) (t : Nat) : UInt32 := (sched b (t + 1)).getD t 0
theorem sched_get (b : List UInt8) (n : Nat) : ∀ t, t < n → (sched b n).getD t 0 = wdt b t := by
  induction n with
  | zero => intro t h; omega
  | succ n ih =>
    intro t h
    by_cases ht : t = n
    · subst ht; rfl
    · rw [← ih t (by omega)]
      simp only [sched, List.getD_eq_getElem?_getD]
      rw [List.getElem?_append_left (by rw [length_sched]; omega)]
theorem wdt_lo (b : List UInt8) (t : Nat) (h : t < 16) : wdt b t = word ((b.drop (4 * t)).take 4) := by
  unfold wdt
  rw [sched, if_pos h, List.getD_eq_getElem?_getD, List.getElem?_append_right (by rw [length_sched]; omega), length_sched, Nat.sub_self]
  rfl
theorem wdt_hi (b : List UInt8) (t : Nat) : wdt b (t + 16) = wdt b t + sg0 (wdt b (t + 1)) + wdt b (t + 9) + sg1 (wdt b (t + 14)) := by
  show (sched b (t + 16 + 1)).getD (t + 16) 0 = _
  rw [sched, if_neg (by omega), List.getD_eq_getElem?_getD, List.getElem?_append_right (by rw [length_sched]; omega), length_sched, Nat.sub_self]
  show wnext _ _ = _
  unfold wnext
  rw [show t + 16 - 16 = t by omega, show t + 16 - 15 = t + 1 by omega, show t + 16 - 7 = t + 9 by omega, show t + 16 - 2 = t + 14 by omega]
  rw [sched_get _ _ _ (by omega), sched_get _ _ _ (by omega), sched_get _ _ _ (by omega), sched_get _ _ _ (by omega)]
theorem pw32 : (2 : Nat) ^ 32 = 4294967296 := by decide
theorem rN_eq (x : UInt32) (n : Nat) (h0 : 0 < n) (h : n < 32) : rN x.toNat n = (rotr x n).toNat := by
  unfold rN rotr
  rw [UInt32.toNat_or, UInt32.toNat_shiftLeft, UInt32.toNat_shiftRight]
  have e1 : (UInt32.ofNat (32 - n)).toNat % 32 = 32 - n := by simp; omega
  have e2 : (UInt32.ofNat n).toNat % 32 = n := by simp; omega
  rw [e1, e2]
theorem shr_eq (x : UInt32) (n : Nat) (h : n < 32) : x.toNat >>> n = (x >>> UInt32.ofNat n).toNat := by
  rw [UInt32.toNat_shiftRight]
  have e2 : (UInt32.ofNat n).toNat % 32 = n := by simp; omega
  rw [e2]
theorem sg0N_eq (x : UInt32) : sg0N x.toNat = (sg0 x).toNat := by
  unfold sg0N sg0
  rw [rN_eq _ _ (by decide) (by decide), rN_eq _ _ (by decide) (by decide), shr_eq _ _ (by decide), UInt32.toNat_xor, UInt32.toNat_xor]
theorem sg1N_eq (x : UInt32) : sg1N x.toNat = (sg1 x).toNat := by
  unfold sg1N sg1
  rw [rN_eq _ _ (by decide) (by decide), rN_eq _ _ (by decide) (by decide), shr_eq _ _ (by decide), UInt32.toNat_xor, UInt32.toNat_xor]
theorem wnN_eq (b : List UInt8) (t : Nat) : wnN (wdt b t).toNat (wdt b (t + 1)).toNat (wdt b (t + 9)).toNat (wdt b (t + 14)).toNat = (wdt b (t + 16)).toNat := by
  rw [wdt_hi]
  unfold wnN
  rw [sg0N_eq, sg1N_eq, UInt32.toNat_add, UInt32.toNat_add, UInt32.toNat_add, pw32]
  omega
theorem xN_eq (k w : UInt32) (s : S8) : xN k.toNat w.toNat s.e.toNat s.f.toNat s.g.toNat s.h.toNat = (xOf k w s).toNat := by
  unfold xN xOf
  rw [rN_eq _ _ (by decide) (by decide), rN_eq _ _ (by decide) (by decide), rN_eq _ _ (by decide) (by decide)]
  have hn : 4294967295 - s.e.toNat = (~~~s.e).toNat := by rw [UInt32.toNat_not]; rfl
  rw [hn]
  simp only [UInt32.toNat_add, UInt32.toNat_xor, UInt32.toNat_and, pw32]
  omega
theorem yN_eq (s : S8) : yN s.a.toNat s.b.toNat s.c.toNat = (yOf' s).toNat := by
  unfold yN yOf'
  rw [rN_eq _ _ (by decide) (by decide), rN_eq _ _ (by decide) (by decide), rN_eq _ _ (by decide) (by decide)]
  simp only [UInt32.toNat_add, UInt32.toNat_xor, UInt32.toNat_and, pw32]
/-- A state, given as numbers. -/
def S8.nat {α : Type} (s : S8) (k : Nat → Nat → Nat → Nat → Nat → Nat → Nat → Nat → α) : α := k s.a.toNat s.b.toNat s.c.toNat s.d.toNat s.e.toNat s.f.toNat s.g.toNat s.h.toNat

theorem goN_eq {α : Type} (bk : List UInt8) (s : S8) (k : Nat → Nat → Nat → Nat → Nat → Nat → Nat → Nat → α) : ∀ (ks : List Nat) (t : Nat), ks = kcN.drop t → t + ks.length = 64 →
    (rnds (sched bk 64) s t).nat (fun a b c d e f g h => goN ks (wdt bk t).toNat (wdt bk (t + 1)).toNat (wdt bk (t + 2)).toNat (wdt bk (t + 3)).toNat (wdt bk (t + 4)).toNat (wdt bk (t + 5)).toNat (wdt bk (t + 6)).toNat (wdt bk (t + 7)).toNat (wdt bk (t + 8)).toNat (wdt bk (t + 9)).toNat (wdt bk (t + 10)).toNat (wdt bk (t + 11)).toNat (wdt bk (t + 12)).toNat (wdt bk (t + 13)).toNat (wdt bk (t + 14)).toNat (wdt bk (t + 15)).toNat a b c d e f g h k) = (rnds (sched bk 64) s 64).nat k := by
  intro ks
  induction ks with
  | nil =>
    intro t _ hl
    simp at hl
    subst hl
    rfl
  | cons kk r ih =>
    intro t hd hl
    have hlt : t < 64 := by simp at hl; omega
    have hkk : kk = (kc.getD t 0).toNat := by
      have h1 : (kcN.drop t)[0]? = some kk := by rw [← hd]; rfl
      rw [List.getElem?_drop, Nat.add_zero] at h1
      unfold kcN at h1
      rw [List.getElem?_map] at h1
      rw [List.getD_eq_getElem?_getD]
      cases hq : kc[t]? with
      | none => rw [hq] at h1; cases h1
      | some v => rw [hq] at h1; simpa using h1.symm
    rw [← ih (t + 1) (by rw [← List.drop_drop, ← hd]; rfl) (by simp at hl; omega)]
    rw [rnds, sched_get _ _ _ hlt]
    show goN (kk :: r) (wdt bk t).toNat (wdt bk (t + 1)).toNat (wdt bk (t + 2)).toNat (wdt bk (t + 3)).toNat (wdt bk (t + 4)).toNat (wdt bk (t + 5)).toNat (wdt bk (t + 6)).toNat (wdt bk (t + 7)).toNat (wdt bk (t + 8)).toNat (wdt bk (t + 9)).toNat (wdt bk (t + 10)).toNat (wdt bk (t + 11)).toNat (wdt bk (t + 12)).toNat (wdt bk (t + 13)).toNat (wdt bk (t + 14)).toNat (wdt bk (t + 15)).toNat (rnds (sched bk 64) s t).a.toNat (rnds (sched bk 64) s t).b.toNat (rnds (sched bk 64) s t).c.toNat (rnds (sched bk 64) s t).d.toNat (rnds (sched bk 64) s t).e.toNat (rnds (sched bk 64) s t).f.toNat (rnds (sched bk 64) s t).g.toNat (rnds (sched bk 64) s t).h.toNat k = _
    rw [goN, fc_eq, fc_eq, fc_eq, fc_eq, hkk, xN_eq, yN_eq, wnN_eq]
    rw [← pw32, ← UInt32.toNat_add, ← UInt32.toNat_add]
    rfl

/-- Four bytes as a word. -/
def tk4 {α : Type} (l : List Nat) (k : Nat → List Nat → α) : α := match l with
  | p :: q :: r :: s :: t => fc (p * 16777216 + q * 65536 + r * 256 + s) fun w => k w t
  | _ => k 0 []
theorem word4 (p q r s : UInt8) : (word [p, q, r, s]).toNat = p.toNat * 16777216 + q.toNat * 65536 + r.toNat * 256 + s.toNat := by
  have hb : ∀ x : UInt8, x.toNat < 256 := fun x => x.toNat_lt
  have h1 : ∀ (a : UInt32) (x : UInt8), a.toNat < 16777216 → ((a <<< UInt32.ofNat 8) ||| x.toUInt32).toNat = a.toNat * 256 + x.toNat := by
    intro a x ha
    rw [UInt32.toNat_or, UInt32.toNat_shiftLeft, show (UInt32.ofNat 8).toNat % 32 = 8 from rfl, UInt8.toNat_toUInt32, Nat.mod_eq_of_lt (by rw [Nat.shiftLeft_eq]; omega), ← Nat.shiftLeft_add_eq_or_of_lt (hb x), Nat.shiftLeft_eq]
  have hp := hb p; have hq := hb q; have hr := hb r; have hs := hb s
  unfold word
  simp only [List.foldl]
  have e0 : ((0 : UInt32)).toNat = 0 := rfl
  have e1 := h1 0 p (by rw [e0]; omega)
  rw [e0] at e1
  have e2 := h1 _ q (by rw [e1]; omega)
  have e3 := h1 _ r (by rw [e2, e1]; omega)
  have e4 := h1 _ s (by rw [e3, e2, e1]; omega)
  rw [e4, e3, e2, e1]
  omega
def nl (m : List UInt8) : List Nat := m.map (·.toNat)
theorem tk4_eq {α : Type} (m : List UInt8) (k : Nat → List Nat → α) (h : 4 ≤ m.length) : tk4 (nl m) k = k (word (m.take 4)).toNat (nl (m.drop 4)) := by
  match m, h with
  | p :: q :: r :: s :: t, _ =>
    show fc (p.toNat * 16777216 + q.toNat * 65536 + r.toNat * 256 + s.toNat) (fun w => k w (nl t)) = _
    rw [fc_eq]
    show _ = k (word [p, q, r, s]).toNat (nl t)
    rw [word4]

def tk64 {α : Type} (l0 : List Nat) (k : Nat → Nat → Nat → Nat → Nat → Nat → Nat → Nat → Nat → Nat → Nat → Nat → Nat → Nat → Nat → Nat → List Nat → α) : α := tk4 l0 fun w0 l1 => tk4 l1 fun w1 l2 => tk4 l2 fun w2 l3 => tk4 l3 fun w3 l4 => tk4 l4 fun w4 l5 => tk4 l5 fun w5 l6 => tk4 l6 fun w6 l7 => tk4 l7 fun w7 l8 => tk4 l8 fun w8 l9 => tk4 l9 fun w9 l10 => tk4 l10 fun w10 l11 => tk4 l11 fun w11 l12 => tk4 l12 fun w12 l13 => tk4 l13 fun w13 l14 => tk4 l14 fun w14 l15 => tk4 l15 fun w15 l16 => k w0 w1 w2 w3 w4 w5 w6 w7 w8 w9 w10 w11 w12 w13 w14 w15 l16
theorem tk64_eq {α : Type} (m : List UInt8) (k : Nat → Nat → Nat → Nat → Nat → Nat → Nat → Nat → Nat → Nat → Nat → Nat → Nat → Nat → Nat → Nat → List Nat → α) (h : 64 ≤ m.length) : tk64 (nl m) k = k (wdt (m.take 64) 0).toNat (wdt (m.take 64) 1).toNat (wdt (m.take 64) 2).toNat (wdt (m.take 64) 3).toNat (wdt (m.take 64) 4).toNat (wdt (m.take 64) 5).toNat (wdt (m.take 64) 6).toNat (wdt (m.take 64) 7).toNat (wdt (m.take 64) 8).toNat (wdt (m.take 64) 9).toNat (wdt (m.take 64) 10).toNat (wdt (m.take 64) 11).toNat (wdt (m.take 64) 12).toNat (wdt (m.take 64) 13).toNat (wdt (m.take 64) 14).toNat (wdt (m.take 64) 15).toNat (nl (m.drop 64)) := by
  unfold tk64
  rw [tk4_eq _ _ (by first | omega | (simp only [List.length_drop]; omega))]
  rw [tk4_eq _ _ (by first | omega | (simp only [List.length_drop]; omega))]
  rw [tk4_eq _ _ (by first | omega | (simp only [List.length_drop]; omega))]
  rw [tk4_eq _ _ (by first | omega | (simp only [List.length_drop]; omega))]
  rw [tk4_eq _ _ (by first | omega | (simp only [List.length_drop]; omega))]
  rw [tk4_eq _ _ (by first | omega | (simp only [List.length_drop]; omega))]
  rw [tk4_eq _ _ (by first | omega | (simp only [List.length_drop]; omega))]
  rw [tk4_eq _ _ (by first | omega | (simp only [List.length_drop]; omega))]
  rw [tk4_eq _ _ (by first | omega | (simp only [List.length_drop]; omega))]
  rw [tk4_eq _ _ (by first | omega | (simp only [List.length_drop]; omega))]
  rw [tk4_eq _ _ (by first | omega | (simp only [List.length_drop]; omega))]
  rw [tk4_eq _ _ (by first | omega | (simp only [List.length_drop]; omega))]
  rw [tk4_eq _ _ (by first | omega | (simp only [List.length_drop]; omega))]
  rw [tk4_eq _ _ (by first | omega | (simp only [List.length_drop]; omega))]
  rw [tk4_eq _ _ (by first | omega | (simp only [List.length_drop]; omega))]
  rw [tk4_eq _ _ (by first | omega | (simp only [List.length_drop]; omega))]
  simp only [List.drop_drop, Nat.reduceAdd]
  have hw : ∀ t, t < 16 → wdt (m.take 64) t = word ((m.drop (4 * t)).take 4) := fun t ht => by
    rw [wdt_lo _ _ ht, List.drop_take, List.take_take, show min 4 (64 - 4 * t) = 4 by omega]
  rw [hw 0 (by decide), hw 1 (by decide), hw 2 (by decide), hw 3 (by decide), hw 4 (by decide), hw 5 (by decide), hw 6 (by decide), hw 7 (by decide), hw 8 (by decide), hw 9 (by decide), hw 10 (by decide), hw 11 (by decide), hw 12 (by decide), hw 13 (by decide), hw 14 (by decide), hw 15 (by decide)]
  simp only [Nat.reduceMul, List.drop_zero]

def hstN {α : Type} : Nat → (Nat → Nat → Nat → Nat → Nat → Nat → Nat → Nat → List Nat → (Nat → Nat → Nat → Nat → Nat → Nat → Nat → Nat → α) → α)
  | 0, a, b, c, d, e, f, g, h, _, k => k a b c d e f g h
  | n + 1, a, b, c, d, e, f, g, h, l, k => tk64 l fun w0 w1 w2 w3 w4 w5 w6 w7 w8 w9 w10 w11 w12 w13 w14 w15 r => goN kcN w0 w1 w2 w3 w4 w5 w6 w7 w8 w9 w10 w11 w12 w13 w14 w15 a b c d e f g h fun a' b' c' d' e' f' g' h' =>
    fc ((a + a') % 4294967296) fun a2 => fc ((b + b') % 4294967296) fun b2 => fc ((c + c') % 4294967296) fun c2 => fc ((d + d') % 4294967296) fun d2 => fc ((e + e') % 4294967296) fun e2 => fc ((f + f') % 4294967296) fun f2 => fc ((g + g') % 4294967296) fun g2 => fc ((h + h') % 4294967296) fun h2 => hstN n a2 b2 c2 d2 e2 f2 g2 h2 r k
theorem hstN_eq {α : Type} (k : Nat → Nat → Nat → Nat → Nat → Nat → Nat → Nat → α) : ∀ (n : Nat) (s : S8) (m : List UInt8), 64 * n ≤ m.length → s.nat (fun a b c d e f g h => hstN n a b c d e f g h (nl m) k) = (hst n s m).nat k := by
  intro n
  induction n with
  | zero => intro s m _; rfl
  | succ n ih =>
    intro s m h
    rw [hst, ← ih _ _ (by simp; omega)]
    show hstN (n + 1) s.a.toNat s.b.toNat s.c.toNat s.d.toNat s.e.toNat s.f.toNat s.g.toNat s.h.toNat (nl m) k = _
    rw [hstN, tk64_eq _ _ (by omega)]
    have hg := goN_eq (m.take 64) s (fun a' b' c' d' e' f' g' h' => fc ((s.a.toNat + a') % 4294967296) fun a2 => fc ((s.b.toNat + b') % 4294967296) fun b2 => fc ((s.c.toNat + c') % 4294967296) fun c2 => fc ((s.d.toNat + d') % 4294967296) fun d2 => fc ((s.e.toNat + e') % 4294967296) fun e2 => fc ((s.f.toNat + f') % 4294967296) fun f2 => fc ((s.g.toNat + g') % 4294967296) fun g2 => fc ((s.h.toNat + h') % 4294967296) fun h2 => hstN n a2 b2 c2 d2 e2 f2 g2 h2 (nl (m.drop 64)) k) kcN 0 rfl rfl
    simp only [Nat.zero_add] at hg
    refine Eq.trans hg ?_
    simp only [S8.nat, fc_eq, compress, S8.add, UInt32.toNat_add, pw32]

def len8N (n : Nat) : List Nat := [n / 72057594037927936 % 256, n / 281474976710656 % 256, n / 1099511627776 % 256, n / 4294967296 % 256, n / 16777216 % 256, n / 65536 % 256, n / 256 % 256, n % 256]
def outN (a b c d e f g h : Nat) : List Nat := [a >>> 24 % 256, a >>> 16 % 256, a >>> 8 % 256, a >>> 0 % 256, b >>> 24 % 256, b >>> 16 % 256, b >>> 8 % 256, b >>> 0 % 256, c >>> 24 % 256, c >>> 16 % 256, c >>> 8 % 256, c >>> 0 % 256, d >>> 24 % 256, d >>> 16 % 256, d >>> 8 % 256, d >>> 0 % 256, e >>> 24 % 256, e >>> 16 % 256, e >>> 8 % 256, e >>> 0 % 256, f >>> 24 % 256, f >>> 16 % 256, f >>> 8 % 256, f >>> 0 % 256, g >>> 24 % 256, g >>> 16 % 256, g >>> 8 % 256, g >>> 0 % 256, h >>> 24 % 256, h >>> 16 % 256, h >>> 8 % 256, h >>> 0 % 256]
/-- The hash, as a list of numbers. -/
def shaN {α : Type} (l : List Nat) (k : List Nat → α) : α :=
  fc l.length fun n => hstN ((n + 9 + zeros n) / 64) 1779033703 3144134277 1013904242 2773480762 1359893119 2600822924 528734635 1541459225 (l ++ 128 :: (List.replicate (zeros n) 0 ++ len8N (8 * n))) fun a b c d e f g h => k (outN a b c d e f g h)
theorem len8N_eq (n : Nat) : len8N n = nl (len8 n) := by
  have e : ∀ x : Nat, (UInt8.ofNat (x % 256)).toNat = x % 256 := fun x => by simp
  unfold len8 nl len8N
  simp [List.range, List.range.loop]
theorem outN_eq (s : S8) : s.nat outN = nl (out32 s) := by
  have e : ∀ (x : UInt32) (n : Nat), n < 32 → x.toNat >>> n % 256 = (x >>> UInt32.ofNat n).toUInt8.toNat := fun x n h => by
    rw [UInt32.toNat_toUInt8, ← shr_eq _ _ h]
  unfold S8.nat outN
  rw [e _ 24 (by decide), e _ 16 (by decide), e _ 8 (by decide), e _ 0 (by decide), e _ 24 (by decide), e _ 16 (by decide), e _ 8 (by decide), e _ 0 (by decide), e _ 24 (by decide), e _ 16 (by decide), e _ 8 (by decide), e _ 0 (by decide), e _ 24 (by decide), e _ 16 (by decide), e _ 8 (by decide), e _ 0 (by decide), e _ 24 (by decide), e _ 16 (by decide), e _ 8 (by decide), e _ 0 (by decide), e _ 24 (by decide), e _ 16 (by decide), e _ 8 (by decide), e _ 0 (by decide), e _ 24 (by decide), e _ 16 (by decide), e _ 8 (by decide), e _ 0 (by decide), e _ 24 (by decide), e _ 16 (by decide), e _ 8 (by decide), e _ 0 (by decide)]
  rfl
theorem length_padding (n : Nat) : (padding n).length = 9 + zeros n := by
  simp [padding, len8]; omega
theorem shaN_eq {α : Type} (m : List UInt8) (k : List Nat → α) : shaN (nl m) k = k (nl (sha m)) := by
  unfold shaN sha state
  have hl : (nl m).length = m.length := by simp [nl]
  rw [fc_eq, hl]
  have hp : nl m ++ 128 :: (List.replicate (zeros m.length) 0 ++ len8N (8 * m.length)) = nl (m ++ padding m.length) := by
    rw [len8N_eq]
    simp [nl, padding]
  rw [hp]
  have hlen : (m ++ padding m.length).length = m.length + 9 + zeros m.length := by rw [List.length_append, length_padding]; omega
  rw [hlen]
  have h := hstN_eq (fun a b c d e f g h => k (outN a b c d e f g h)) ((m.length + 9 + zeros m.length) / 64) s8init (m ++ padding m.length) (by rw [hlen]; omega)
  refine Eq.trans h ?_
  rw [← outN_eq]
  rfl
/-- Equal lists of numbers. -/
def eqN : List Nat → List Nat → Bool
  | [], [] => true
  | x :: l, y :: r => Nat.beq x y && eqN l r
  | _, _ => false
theorem eqN_eq : ∀ (l r : List Nat), eqN l r = true → l = r := by
  intro l
  induction l with
  | nil => intro r h; cases r with
    | nil => rfl
    | cons => cases h
  | cons x l ih => intro r h; cases r with
    | nil => cases h
    | cons y r =>
      obtain ⟨h1, h2⟩ := Bool.and_eq_true_iff.1 h
      rw [Nat.eq_of_beq_eq_true h1, ih r h2]
theorem nl_inj {l r : List UInt8} (h : nl l = nl r) : l = r := by
  unfold nl at h
  exact (List.map_inj_right (fun _ _ h => UInt8.toNat.inj h)).1 h
theorem sha_is (m v : List UInt8) (h : shaN (nl m) (fun l => eqN l (nl v)) = true) : sha m = v := by
  rw [shaN_eq] at h
  exact nl_inj (eqN_eq _ _ h)
end Go.Proofs.YtidfbboalbchiaaDoor
