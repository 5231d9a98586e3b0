/- Part 2 of the texts that a claim's last texts stand on: Word, Sha, A1, A2, A3, Msg, A4, A5, Wire, A6. Conditions: those that each theorem names. -/
import Derived.Test.YtidfbboalbchiaaDoorT1
namespace Go.Proofs.YtidfbboalbchiaaDoor
open Go

theorem bits32 : IntKind.u32.bits = 32 := rfl
theorem bits8 : IntKind.u8.bits = 8 := rfl
theorem bits64 : IntKind.u64.bits = 64 := rfl
theorem wrap32u (n : Int) : IntKind.u32.wrap n = n % 4294967296 := by
  unfold IntKind.wrap; simp [IntKind.bits, IntKind.signed]
theorem wrap8u (n : Int) : IntKind.u8.wrap n = n % 256 := by
  unfold IntKind.wrap; simp [IntKind.bits, IntKind.signed]
theorem wrap64u (n : Int) : IntKind.u64.wrap n = n % 18446744073709551616 := by
  unfold IntKind.wrap; simp [IntKind.bits, IntKind.signed]
/-- An int that fits. -/
theorem i64 {n : Int} (h0 : -9223372036854775808 ≤ n) (h1 : n ≤ 9223372036854775807) : IntKind.i64.wrap n = n := by
  unfold IntKind.wrap; simp [IntKind.bits, IntKind.signed]; omega
theorem u64 {n : Int} (h0 : 0 ≤ n) (h1 : n < 18446744073709551616) : IntKind.u64.wrap n = n := by rw [wrap64u]; omega
theorem u8 {n : Int} (h0 : 0 ≤ n) (h1 : n < 256) : IntKind.u8.wrap n = n := by rw [wrap8u]; omega
theorem bv32 (x : UInt32) : BitVec.ofInt 32 (x.toNat : Int) = x.toBitVec := by
  apply BitVec.eq_of_toNat_eq; rw [BitVec.toNat_ofInt]; have := x.toNat_lt; simp; omega
theorem bv8 (x : UInt8) : BitVec.ofInt 8 (x.toNat : Int) = x.toBitVec := by
  apply BitVec.eq_of_toNat_eq; rw [BitVec.toNat_ofInt]; have := x.toNat_lt; simp; omega
theorem bv64 (x : UInt64) : BitVec.ofInt 64 (x.toNat : Int) = x.toBitVec := by
  apply BitVec.eq_of_toNat_eq; rw [BitVec.toNat_ofInt]; have := x.toNat_lt; simp; omega
theorem w_lt (x : UInt32) : (x.toNat : Int) < 4294967296 := by have := x.toNat_lt; omega
theorem b_lt (x : UInt8) : (x.toNat : Int) < 256 := by have := x.toNat_lt; omega
theorem u_lt (x : UInt64) : (x.toNat : Int) < 18446744073709551616 := by have := x.toNat_lt; omega

theorem w_add (x y : UInt32) : IntKind.u32.wrap ((x.toNat : Int) + y.toNat) = ((x + y).toNat : Int) := by
  rw [wrap32u, UInt32.toNat_add]; omega
theorem w_xor (x y : UInt32) : IntKind.u32.wrap ((BitVec.ofInt IntKind.u32.bits (x.toNat : Int) ^^^ BitVec.ofInt IntKind.u32.bits (y.toNat : Int)).toNat : Int) = ((x ^^^ y).toNat : Int) := by
  have e : (BitVec.ofInt IntKind.u32.bits (x.toNat : Int) ^^^ BitVec.ofInt IntKind.u32.bits (y.toNat : Int)).toNat = (x ^^^ y).toNat := by
    show (BitVec.ofInt 32 (x.toNat : Int) ^^^ BitVec.ofInt 32 (y.toNat : Int)).toNat = _
    rw [bv32, bv32]; rfl
  rw [e, wrap32u]; have := w_lt (x ^^^ y); omega
theorem w_and (x y : UInt32) : IntKind.u32.wrap ((BitVec.ofInt IntKind.u32.bits (x.toNat : Int) &&& BitVec.ofInt IntKind.u32.bits (y.toNat : Int)).toNat : Int) = ((x &&& y).toNat : Int) := by
  have e : (BitVec.ofInt IntKind.u32.bits (x.toNat : Int) &&& BitVec.ofInt IntKind.u32.bits (y.toNat : Int)).toNat = (x &&& y).toNat := by
    show (BitVec.ofInt 32 (x.toNat : Int) &&& BitVec.ofInt 32 (y.toNat : Int)).toNat = _
    rw [bv32, bv32]; rfl
  rw [e, wrap32u]; have := w_lt (x &&& y); omega
theorem w_or (x y : UInt32) : IntKind.u32.wrap ((BitVec.ofInt IntKind.u32.bits (x.toNat : Int) ||| BitVec.ofInt IntKind.u32.bits (y.toNat : Int)).toNat : Int) = ((x ||| y).toNat : Int) := by
  have e : (BitVec.ofInt IntKind.u32.bits (x.toNat : Int) ||| BitVec.ofInt IntKind.u32.bits (y.toNat : Int)).toNat = (x ||| y).toNat := by
    show (BitVec.ofInt 32 (x.toNat : Int) ||| BitVec.ofInt 32 (y.toNat : Int)).toNat = _
    rw [bv32, bv32]; rfl
  rw [e, wrap32u]; have := w_lt (x ||| y); omega
theorem w_cpl (x : UInt32) : IntKind.u32.wrap ((BitVec.ofInt IntKind.u32.bits IntKind.u32.max ^^^ BitVec.ofInt IntKind.u32.bits (x.toNat : Int)).toNat : Int) = ((~~~x).toNat : Int) := by
  have e : (BitVec.ofInt IntKind.u32.bits IntKind.u32.max ^^^ BitVec.ofInt IntKind.u32.bits (x.toNat : Int)).toNat = (~~~x).toNat := by
    show (BitVec.ofInt 32 IntKind.u32.max ^^^ BitVec.ofInt 32 (x.toNat : Int)).toNat = _
    rw [bv32, show BitVec.ofInt 32 IntKind.u32.max = BitVec.allOnes 32 from by decide, BitVec.allOnes_xor]; rfl
  rw [e, wrap32u]; have := w_lt (~~~x); omega
theorem min_lt {n k : Nat} (h : n < k) : min n k = n := by omega
theorem w_shl (x : UInt32) (n : Nat) (h : n < 32) : IntKind.u32.wrap ((x.toNat : Int) * 2 ^ min n IntKind.u32.bits) = ((x <<< UInt32.ofNat n).toNat : Int) := by
  have e : (UInt32.ofNat n).toNat % 32 = n := by
    have : (UInt32.ofNat n).toNat = n % 2 ^ 32 := rfl
    omega
  rw [bits32, min_lt h, wrap32u, UInt32.toNat_shiftLeft, e, Nat.shiftLeft_eq]
  have h2 : ((x.toNat * 2 ^ n % 2 ^ 32 : Nat) : Int) = ((x.toNat * 2 ^ n : Nat) : Int) % 4294967296 := by omega
  rw [h2, Int.natCast_mul, Int.natCast_pow]
  rfl
theorem w_shr (x : UInt32) (n : Nat) (h : n < 32) : (x.toNat : Int).fdiv (2 ^ min n IntKind.u32.bits) = ((x >>> UInt32.ofNat n).toNat : Int) := by
  have e : (UInt32.ofNat n).toNat % 32 = n := by
    have : (UInt32.ofNat n).toNat = n % 2 ^ 32 := rfl
    omega
  rw [bits32, min_lt h, UInt32.toNat_shiftRight, e, Nat.shiftRight_eq_div_pow, Int.fdiv_eq_ediv_of_nonneg _ (Int.pow_nonneg (by decide))]
  norm_cast
theorem b_xor (x y : UInt8) : IntKind.u8.wrap ((BitVec.ofInt IntKind.u8.bits (x.toNat : Int) ^^^ BitVec.ofInt IntKind.u8.bits (y.toNat : Int)).toNat : Int) = ((x ^^^ y).toNat : Int) := by
  have e : (BitVec.ofInt IntKind.u8.bits (x.toNat : Int) ^^^ BitVec.ofInt IntKind.u8.bits (y.toNat : Int)).toNat = (x ^^^ y).toNat := by
    show (BitVec.ofInt 8 (x.toNat : Int) ^^^ BitVec.ofInt 8 (y.toNat : Int)).toNat = _
    rw [bv8, bv8]; rfl
  rw [e, wrap8u]; have := b_lt (x ^^^ y); omega
theorem b_or (x y : UInt8) : IntKind.u8.wrap ((BitVec.ofInt IntKind.u8.bits (x.toNat : Int) ||| BitVec.ofInt IntKind.u8.bits (y.toNat : Int)).toNat : Int) = ((x ||| y).toNat : Int) := by
  have e : (BitVec.ofInt IntKind.u8.bits (x.toNat : Int) ||| BitVec.ofInt IntKind.u8.bits (y.toNat : Int)).toNat = (x ||| y).toNat := by
    show (BitVec.ofInt 8 (x.toNat : Int) ||| BitVec.ofInt 8 (y.toNat : Int)).toNat = _
    rw [bv8, bv8]; rfl
  rw [e, wrap8u]; have := b_lt (x ||| y); omega
theorem b_w (x : UInt8) : IntKind.u32.wrap (x.toNat : Int) = (x.toUInt32.toNat : Int) := by
  rw [wrap32u, UInt8.toNat_toUInt32]; have := b_lt x; omega
theorem w_b (x : UInt32) : IntKind.u8.wrap (x.toNat : Int) = (x.toUInt8.toNat : Int) := by
  rw [wrap8u, UInt32.toNat_toUInt8]; omega
/-- The byte that an int ends in. -/
def byteOf (n : Int) : UInt8 := UInt8.ofNat (n % 256).toNat
theorem i_b (n : Int) : IntKind.u8.wrap n = ((byteOf n).toNat : Int) := by
  rw [wrap8u]
  unfold byteOf
  have : (UInt8.ofNat (n % 256).toNat).toNat = (n % 256).toNat % 2 ^ 8 := rfl
  omega
end Go.Proofs.YtidfbboalbchiaaDoor

namespace Go.Proofs.YtidfbboalbchiaaDoor

/-- A word, rotated right. -/
def rotr (x : UInt32) (n : Nat) : UInt32 := (x <<< UInt32.ofNat (32 - n)) ||| (x >>> UInt32.ofNat n)
def kc : List UInt32 := [1116352408, 1899447441, 3049323471, 3921009573, 961987163, 1508970993, 2453635748, 2870763221, 3624381080, 310598401, 607225278, 1426881987, 1925078388, 2162078206, 2614888103, 3248222580, 3835390401, 4022224774, 264347078, 604807628, 770255983, 1249150122, 1555081692, 1996064986, 2554220882, 2821834349, 2952996808, 3210313671, 3336571891, 3584528711, 113926993, 338241895, 666307205, 773529912, 1294757372, 1396182291, 1695183700, 1986661051, 2177026350, 2456956037, 2730485921, 2820302411, 3259730800, 3345764771, 3516065817, 3600352804, 4094571909, 275423344, 430227734, 506948616, 659060556, 883997877, 958139571, 1322822218, 1537002063, 1747873779, 1955562222, 2024104815, 2227730452, 2361852424, 2428436474, 2756734187, 3204031479, 3329325298]
/-- Four bytes, the most significant one first. -/
def word (l : List UInt8) : UInt32 := l.foldl (fun acc x => (acc <<< UInt32.ofNat 8) ||| x.toUInt32) 0
def sg0 (x : UInt32) : UInt32 := rotr x 7 ^^^ rotr x 18 ^^^ (x >>> UInt32.ofNat 3)
def sg1 (x : UInt32) : UInt32 := rotr x 17 ^^^ rotr x 19 ^^^ (x >>> UInt32.ofNat 10)
def wnext (ws : List UInt32) (t : Nat) : UInt32 := ws.getD (t - 16) 0 + sg0 (ws.getD (t - 15) 0) + ws.getD (t - 7) 0 + sg1 (ws.getD (t - 2) 0)
/-- The first words of a block's message schedule. -/
def sched (b : List UInt8) : Nat → List UInt32
  | 0 => []
  | t + 1 => sched b t ++ [if t < 16 then word ((b.drop (4 * t)).take 4) else wnext (sched b t) t]
theorem length_sched (b : List UInt8) (t : Nat) : (sched b t).length = t := by
  induction t with
  | zero => rfl
  | succ t ih => simp [sched, ih]

structure S8 where
  a : UInt32
  b : UInt32
  c : UInt32
  d : UInt32
  e : UInt32
  f : UInt32
  g : UInt32
  h : UInt32
def S8.list (s : S8) : List UInt32 := [s.a, s.b, s.c, s.d, s.e, s.f, s.g, s.h]
def xOf (k w : UInt32) (s : S8) : UInt32 := s.h + (rotr s.e 6 ^^^ rotr s.e 11 ^^^ rotr s.e 25) + (s.e &&& s.f ^^^ ~~~s.e &&& s.g) + k + w
def yOf' (s : S8) : UInt32 := (rotr s.a 2 ^^^ rotr s.a 13 ^^^ rotr s.a 22) + (s.a &&& s.b ^^^ s.a &&& s.c ^^^ s.b &&& s.c)
def rnd (k w : UInt32) (s : S8) : S8 := ⟨xOf k w s + yOf' s, s.a, s.b, s.c, s.d + xOf k w s, s.e, s.f, s.g⟩
def rnds (ws : List UInt32) (s : S8) : Nat → S8
  | 0 => s
  | t + 1 => rnd (kc.getD t 0) (ws.getD t 0) (rnds ws s t)
def S8.add (s v : S8) : S8 := ⟨s.a + v.a, s.b + v.b, s.c + v.c, s.d + v.d, s.e + v.e, s.f + v.f, s.g + v.g, s.h + v.h⟩
def compress (s : S8) (b : List UInt8) : S8 := s.add (rnds (sched b 64) s 64)
def s8init : S8 := ⟨0x6a09e667, 0xbb67ae85, 0x3c6ef372, 0xa54ff53a, 0x510e527f, 0x9b05688c, 0x1f83d9ab, 0x5be0cd19⟩
end Go.Proofs.YtidfbboalbchiaaDoor

namespace Go.Proofs.YtidfbboalbchiaaDoor
open Go Go.RowKit

/-- A word, rotated right. -/

theorem rot_amount : ∀ n : Fin 32, 0 < n.val → IntKind.u64.wrap ((BitVec.ofInt IntKind.u64.bits (IntKind.u64.wrap (-(n.val : Int))) &&& BitVec.ofInt IntKind.u64.bits 31).toNat : Int) = (((32 - n.val : Nat)) : Int) := by decide +kernel
theorem n0 (i : Nat) (h : i < 32) : IntKind.i64.wrap (0 - (i : Int)) = -(i : Int) := by rw [i64 (by omega) (by omega)]; omega

theorem c132 (x : UInt32) (k : Int) (n : Nat) (hn : k = -(n : Int)) (h0 : 0 < n) (h1 : n < 32) (w : World) :
    Calls Tryd.prog 132 #[W x, I k] w fun e w' => e = .returned (W (rotr x n)) ∧ w' = w := by
  have hs := rot_amount ⟨n, h1⟩ h0
  simp only [← hn] at hs
  refine start 17 Tryd.func132 rfl rfl rfl fun a hk => ?_
  refine wp_seq_k fun K1 hK1 => ?_
  refine wp_region_lit ?_
  refine ls hk rfl rfl rfl (e_assign hk rfl _) fun a hk => ?_
  refine lnil (hK1 _ _ ?_)
  refine wp_seq_k fun K2 hK2 => ?_
  refine wp_region_lit ?_
  refine ls hk rfl rfl rfl (e_move hk rfl _) fun a hk => ?_
  refine ls hk rfl rfl rfl (e_conv hk rfl Tryd.underlying3 Tryd.underlying89 rfl _) fun a hk => ?_
  refine ls hk rfl rfl rfl (e_and hk rfl rfl hs _) fun a hk => ?_
  refine ls hk rfl rfl rfl (e_assign hk rfl _) fun a hk => ?_
  refine lnil (hK2 _ _ ?_)
  refine wp_seq_k fun K3 hK3 => ?_
  refine wp_region_lit ?_
  refine ls hk rfl rfl rfl (e_move hk rfl _) fun a hk => ?_
  refine ls hk rfl rfl rfl (e_move hk rfl _) fun a hk => ?_
  refine ls hk rfl rfl rfl (e_shl hk rfl rfl (by omega) (w_shl _ _ (by omega)) _) fun a hk => ?_
  refine ls hk rfl rfl rfl (e_move hk rfl _) fun a hk => ?_
  refine ls hk rfl rfl rfl (e_move hk rfl _) fun a hk => ?_
  refine ls hk rfl rfl rfl (e_sub hk rfl rfl (u64 (by omega) (by omega)) _) fun a hk => ?_
  refine ls hk rfl rfl rfl (e_shr hk rfl rfl (by omega) (w_shr _ _ (by omega)) _) fun a hk => ?_
  refine ls hk rfl rfl rfl (e_or hk rfl rfl (w_or _ _) _) fun a hk => ?_
  refine ls hk rfl rfl rfl (e_assign hk rfl _) fun a hk => ?_
  refine lnil (hK3 _ _ ?_)
  refine wp_ret ?_
  refine ret1 hk rfl rfl ⟨?_, rfl⟩
  have e : ((32 : Int) - ((32 - n : Nat) : Int)).toNat = n := by omega
  simp only [Int.toNat_natCast, e]
  rfl

theorem c121 (x : UInt32) (i j k : Nat) (hi : 0 < i ∧ i < 32) (hj : 0 < j ∧ j < 32) (hl : 0 < k ∧ k < 32) (w : World) :
    Calls Tryd.prog 121 #[W x, I i, I j, I k] w fun e w' => e = .returned (W (rotr x i ^^^ rotr x j ^^^ rotr x k)) ∧ w' = w := by
  refine start 23 Tryd.func121 rfl rfl rfl fun a hk => ?_
  refine wp_seq_k fun K1 hK1 => ?_
  refine wp_region_lit ?_
  refine ls hk rfl rfl rfl (e_assign hk rfl _) fun a hk => ?_
  refine lnil (hK1 _ _ ?_)
  refine wp_seq_k fun K2 hK2 => ?_
  refine wp_region_lit ?_
  refine ls hk rfl rfl rfl (e_move hk rfl _) fun a hk => ?_
  refine ls hk rfl rfl rfl (e_move hk rfl _) fun a hk => ?_
  refine ls hk rfl rfl rfl (e_neg hk rfl (n0 i hi.2) _) fun a hk => ?_
  refine la hk rfl (a_call hk rfl rfl (c_fn hk rfl ok132) (c132 x _ i rfl hi.1 hi.2 _) ?_)
  rintro e w' ⟨rfl, rfl⟩
  refine ⟨_, rfl, fun a hk => ?_⟩
  refine ls hk rfl rfl rfl (e_move hk rfl _) fun a hk => ?_
  refine ls hk rfl rfl rfl (e_move hk rfl _) fun a hk => ?_
  refine ls hk rfl rfl rfl (e_neg hk rfl (n0 j hj.2) _) fun a hk => ?_
  refine la hk rfl (a_call hk rfl rfl (c_fn hk rfl ok132) (c132 x _ j rfl hj.1 hj.2 _) ?_)
  rintro e w' ⟨rfl, rfl⟩
  refine ⟨_, rfl, fun a hk => ?_⟩
  refine ls hk rfl rfl rfl (e_xor hk rfl rfl (w_xor _ _) _) fun a hk => ?_
  refine ls hk rfl rfl rfl (e_move hk rfl _) fun a hk => ?_
  refine ls hk rfl rfl rfl (e_move hk rfl _) fun a hk => ?_
  refine ls hk rfl rfl rfl (e_neg hk rfl (n0 k hl.2) _) fun a hk => ?_
  refine la hk rfl (a_call hk rfl rfl (c_fn hk rfl ok132) (c132 x _ k rfl hl.1 hl.2 _) ?_)
  rintro e w' ⟨rfl, rfl⟩
  refine ⟨_, rfl, fun a hk => ?_⟩
  refine ls hk rfl rfl rfl (e_xor hk rfl rfl (w_xor _ _) _) fun a hk => ?_
  refine ls hk rfl rfl rfl (e_assign hk rfl _) fun a hk => ?_
  refine lnil (hK2 _ _ ?_)
  refine wp_ret ?_
  exact ret1 hk rfl rfl ⟨rfl, rfl⟩

end Go.Proofs.YtidfbboalbchiaaDoor

namespace Go.Proofs.YtidfbboalbchiaaDoor
open Go Go.RowKit

theorem words_set (A R : List UInt32) (x y : UInt32) (n : Nat) (h : n = A.length) : ((A ++ [x] ++ R).map W).toArray.setIfInBounds n (W y) = ((A ++ [y] ++ R).map W).toArray := by
  subst h
  simp
theorem words_get (A R : List UInt32) (x : UInt32) (n : Nat) (h : n = A.length) : ((A ++ [x] ++ R).map W).toArray[n]? = some (W x) := by
  subst h
  simp
theorem words_at (A R : List UInt32) (n i : Nat) (h : n = i) (hi : i < A.length) : ((A ++ R).map W).toArray[n]? = some (W (A.getD i 0)) := by
  subst h
  simp [List.getElem?_append, hi]
theorem bytes_at {w : World} {bb oo n c : Nat} {bs : List UInt8} (h : Rd w (some ⟨bb, oo, none⟩) n c 1 (bs.map B)) (i k : Nat) (hk : k = oo + i) (hi : i < bs.length) : w.cell? ⟨bb, k, none⟩ = some (B (bs.getD i 0)) := by
  subst hk
  obtain ⟨b, o, h1, h2⟩ := h.2.2 i (B (bs.getD i 0)) (by simp [hi])
  cases h1
  exact h2
theorem words_one (l : List UInt32) : ∀ u ∈ (l.map W).toArray, u.oneCell' = true := by
  intro u hu
  simp at hu
  obtain ⟨x, _, rfl⟩ := hu
  rfl
theorem word_take (l : List UInt8) (k : Nat) (h : k < l.length) : word (l.take (k + 1)) = (word (l.take k) <<< UInt32.ofNat 8) ||| (l.getD k 0).toUInt32 := by
  rw [List.take_succ_eq_append_getElem h]
  unfold word
  rw [List.foldl_append]
  simp [h]

set_option maxRecDepth 4000 in
theorem c120 (bs : List UInt8) (bb oo cc : Nat) (w0 : World) (hl : bs.length = 64) (hR : Rd w0 (some ⟨bb, oo, none⟩) 64 cc 1 (bs.map B)) :
    Calls Tryd.prog 120 #[.slice (some ⟨bb, oo, none⟩) 64 cc] w0 fun e w' => e = .returned (.agg ((sched bs 64).map W).toArray) ∧ Ext w0 w' := by
  refine start 79 Tryd.func120 rfl rfl rfl fun a hk => ?_
  refine wp_seq_k fun K1 hK1 => ?_
  refine wp_region_lit ?_
  refine la hk rfl (a_alloc hk rfl zr100 fun a w b2 hk G2 => ?_)
  refine lnil (hK1 _ _ ?_)
  refine wp_seq_k fun K2 hK2 => ?_
  refine wp_region_lit ?_
  refine la hk rfl (a_alloc hk rfl zr100 fun a w b3 hk G3 => ?_)
  refine lnil (hK2 _ _ ?_)
  refine wp_seq_k fun K3 hK3 => ?_
  refine wp_seq_k fun K4 hK4 => ?_
  have hB : Below w0.heap.size w0 w := ext_trans G2.ext G3.ext
  have h2 := ext_at G3.ext G2.at_
  have h3 : w.heap[b3]? = some (.cells ((sched bs 0 ++ List.replicate (64 - 0) 0).map W).toArray 100 (0, 0)) := G3.at_
  have hne : b2 ≠ b3 := G3.ne G2.at_
  have hg2 := G2.ge
  have hg3 : w0.heap.size ≤ b3 := Nat.le_trans G2.ext.size G3.ge
  have hcc := hR.2.1
  clear G2 G3
  refine wp_region_lit ?_
  refine ls hk rfl rfl rfl (e_move hk rfl _) fun a hk => ?_
  refine lnil (hK4 _ _ ?_)
  refine wp_block ?_
  refine loopN (fun n a w => ∃ j : Nat, n = 64 - j ∧ j ≤ 64 ∧ Kn a 79 [(0, .slice (some ⟨bb, oo, none⟩) 64 cc), (2, .pointer (some ⟨b2, 0, none⟩)), (3, .pointer (some ⟨b3, 0, none⟩)), (11, I j)] ∧ Below w0.heap.size w0 w ∧ (∃ z, w.heap[b2]? = some (.cells z 100 (0, 0)) ∧ z.size = 64) ∧ w.heap[b3]? = some (.cells ((sched bs j ++ List.replicate (64 - j) 0).map W).toArray 100 (0, 0))) (64) ?_ fun n a w hI => ?_
  · exact ⟨0, rfl, by omega, hk.sub _ ⟨rfl, rfl, rfl, rfl, trivial⟩, hB, ⟨_, h2, rfl⟩, h3⟩
  clear hB h2 h3
  obtain ⟨j, rfl, hj, hk, hB, ⟨z, h2, hz⟩, h3⟩ := hI
  refine wp_seq_k fun K5 hK5 => ?_
  refine wp_region_lit ?_
  refine ls hk rfl rfl rfl (e_lss hk rfl rfl rfl _) fun a hk => ?_
  refine lnil (hK5 _ _ ?_)
  refine wp_seq_k fun K6 hK6 => ?_
  refine cdB hk rfl (fun hb => ?_) (fun hb => ?_)
  · have hj1 : j < 64 := by have := of_decide_eq_true hb; omega
    refine wp_skip (hK6 _ _ ?_)
    refine wp_seq_k fun K7 hK7 => ?_
    refine wp_block ?_
    refine wp_seq_k fun K8 hK8 => ?_
    refine wp_region_lit ?_
    refine ls hk rfl rfl rfl (e_move hk rfl _) fun a hk => ?_
    refine ls hk rfl rfl rfl (e_assign hk rfl _) fun a hk => ?_
    refine lnil (hK8 _ _ ?_)
    refine wp_seq_k fun K9 hK9 => ?_
    refine wp_seq_k fun K10 hK10 => ?_
    refine wp_region_lit ?_
    refine ls hk rfl rfl rfl (e_move hk rfl _) fun a hk => ?_
    refine ls hk rfl rfl rfl (e_lss hk rfl rfl rfl _) fun a hk => ?_
    refine lnil (hK10 _ _ ?_)
    refine cdB hk rfl (fun hb => ?_) (fun hb => ?_)
    · have h16 : j < 16 := by have := of_decide_eq_true hb; omega
      refine wp_seq_k fun K11 hK11 => ?_
      refine wp_seq_k fun K12 hK12 => ?_
      refine wp_region_lit ?_
      refine ls hk rfl rfl rfl (e_move hk rfl _) fun a hk => ?_
      refine ls hk rfl rfl rfl (e_move hk rfl _) fun a hk => ?_
      refine ls hk rfl rfl rfl (e_mul hk rfl rfl (i64 (by omega) (by omega)) _) fun a hk => ?_
      refine ls hk rfl rfl rfl (e_move hk rfl _) fun a hk => ?_
      refine ls hk rfl rfl rfl (e_mul hk rfl rfl (i64 (by omega) (by omega)) _) fun a hk => ?_
      refine ls hk rfl rfl rfl (e_add hk rfl rfl (i64 (by omega) (by omega)) _) fun a hk => ?_
      refine ls hk rfl rfl rfl (e_slSn (4 * j) 4 hk rfl rfl rfl Tryd.underlying22 sz5 (by omega) (by omega) (by omega) (by omega) _) fun a hk => ?_
      refine ls hk rfl rfl rfl (e_lenS hk rfl Tryd.underlying22 _) fun a hk => ?_
      refine ls hk rfl rfl rfl (e_move hk rfl _) fun a hk => ?_
      refine lnil (hK12 _ _ ?_)
      refine wp_block ?_
      refine loopN (fun n a w => ∃ k : Nat, n = 4 - k ∧ k ≤ 4 ∧ Kn a 79 [(0, .slice (some ⟨bb, oo, none⟩) 64 cc), (2, .pointer (some ⟨b2, 0, none⟩)), (3, .pointer (some ⟨b3, 0, none⟩)), (4, I j), (11, I j), (22, .slice (some ⟨bb, oo + 4 * j * 1, none⟩) 4 (cc - 4 * j)), (23, I (4 : Nat)), (24, I k)] ∧ Below w0.heap.size w0 w ∧ (∃ z, w.heap[b2]? = some (.cells z 100 (0, 0)) ∧ z.size = 64) ∧ w.heap[b3]? = some (.cells ((sched bs j ++ [word (((bs.drop (4 * j)).take 4).take k)] ++ List.replicate (63 - j) 0).map W).toArray 100 (0, 0))) (4) ?_ fun n a w hI => ?_
      · refine ⟨0, rfl, by omega, hk.sub _ ⟨rfl, rfl, rfl, rfl, rfl, rfl, rfl, rfl, trivial⟩, hB, ⟨_, h2, hz⟩, ?_⟩
        rw [h3, show 64 - j = (63 - j) + 1 by omega, List.replicate_succ]
        simp [word]
      clear hB h2 h3 hz
      obtain ⟨k, rfl, hkk, hk, hB, ⟨z, h2, hz⟩, h3⟩ := hI
      refine wp_seq_k fun K13 hK13 => ?_
      refine wp_region_lit ?_
      refine ls hk rfl rfl rfl (e_lss hk rfl rfl rfl _) fun a hk => ?_
      refine lnil (hK13 _ _ ?_)
      refine wp_seq_k fun K14 hK14 => ?_
      refine cdB hk rfl (fun hb => ?_) (fun hb => ?_)
      · have hk4 : k < 4 := by have := of_decide_eq_true hb; omega
        refine wp_skip (hK14 _ _ ?_)
        refine wp_seq_k fun K15 hK15 => ?_
        refine wp_block ?_
        refine wp_seq_k fun K16 hK16 => ?_
        refine wp_region_lit ?_
        refine ls hk rfl rfl rfl (e_idxS1 k hk rfl rfl Tryd.underlying22 sz5 rfl (by omega) _) fun a hk => ?_
        refine ls hk rfl rfl rfl (r_load1 hk rfl Tryd.underlying5 rfl (ext_cell hB (bytes_at hR (4 * j + k) _ (by omega) (by omega)))) fun a hk => ?_
        refine ls hk rfl rfl rfl (e_assign hk rfl _) fun a hk => ?_
        refine lnil (hK16 _ _ ?_)
        refine wp_region_lit ?_
        refine ls hk rfl rfl rfl (e_move hk rfl _) fun a hk => ?_
        refine ls hk rfl rfl rfl (e_move hk rfl _) fun a hk => ?_
        refine ls hk rfl rfl rfl (e_idxA1 j hk rfl rfl Tryd.underlying100 sz29 rfl (by omega) _) fun a hk => ?_
        refine ls hk rfl rfl rfl (r_load hk rfl Tryd.underlying29 rfl h3 (words_get _ _ _ _ (by rw [length_sched]; omega))) fun a hk => ?_
        refine ls hk rfl rfl rfl (e_shl hk rfl rfl (by decide) (w_shl _ 8 (by decide)) _) fun a hk => ?_
        refine ls hk rfl rfl rfl (e_move hk rfl _) fun a hk => ?_
        refine ls hk rfl rfl rfl (e_conv hk rfl Tryd.underlying5 Tryd.underlying29 (b_w _) _) fun a hk => ?_
        refine ls hk rfl rfl rfl (e_or hk rfl rfl (w_or _ _) _) fun a hk => ?_
        refine ls hk rfl rfl rfl (e_idxA1 j hk rfl rfl Tryd.underlying100 sz29 rfl (by omega) _) fun a hk => ?_
        refine la hk rfl (a_store hk rfl rfl rfl sz29 h3 (by simp [length_sched]) fun a w hk W9 => ?_)
        have hB := W9.below hB hg3
        have h2 := W9.keep hne h2
        have h3 := W9.at_
        rw [words_set _ _ _ _ _ (by rw [length_sched]; omega)] at h3
        have hlt : k < ((bs.drop (4 * j)).take 4).length := by simp; omega
        have hw := word_take ((bs.drop (4 * j)).take 4) k hlt
        have hg : ((bs.drop (4 * j)).take 4).getD k 0 = bs.getD (4 * j + k) 0 := by
          have h5 : k < (bs.drop (4 * j)).length := by simp; omega
          simp [hk4]
        rw [hg] at hw
        rw [← hw] at h3
        refine lnil (hK15 _ _ ?_)
        refine wp_region_lit ?_
        refine ls hk rfl rfl rfl (e_add hk rfl rfl (i64 (by omega) (by omega)) _) fun a hk => ?_
        refine ls hk rfl rfl rfl (e_move hk rfl _) fun a hk => ?_
        refine lnil (show ∃ m : Nat, m < _ ∧ _ from ⟨4 - (k + 1), by omega, k + 1, rfl, by omega, hk.sub _ ⟨rfl, rfl, rfl, rfl, rfl, rfl, rfl, rfl, trivial⟩, hB, ⟨_, h2, hz⟩, h3⟩)
      · have hk4 : k = 4 := by have := of_decide_eq_false hb; omega
        subst hk4
        refine wp_exit (hK11 _ _ ?_)
        refine wp_exit (hK7 _ _ ?_)
        have h3 : w.heap[b3]? = some (.cells ((sched bs (j + 1) ++ List.replicate (64 - (j + 1)) 0).map W).toArray 100 (0, 0)) := by
          rw [h3, show 64 - (j + 1) = 63 - j by omega, sched, if_pos h16, List.take_of_length_le (by simp; omega)]
        refine wp_region_lit ?_
        refine ls hk rfl rfl rfl (e_add hk rfl rfl (i64 (by omega) (by omega)) _) fun a hk => ?_
        refine ls hk rfl rfl rfl (e_move hk rfl _) fun a hk => ?_
        refine lnil (show ∃ m : Nat, m < _ ∧ _ from ⟨64 - (j + 1), by omega, j + 1, rfl, by omega, hk.sub _ ⟨rfl, rfl, rfl, rfl, trivial⟩, hB, ⟨_, h2, hz⟩, h3⟩)
    · have h16 : 16 ≤ j := by have := of_decide_eq_false hb; omega
      refine wp_skip (hK9 _ _ ?_)
      refine wp_seq_k fun K17 hK17 => ?_
      refine wp_region_ok (fun _ => True) [0, 0, 0, 1, 0, 0, 0, 1, 0, 0] mixed ?_
      have hB := hB.drew
      refine d0 0 hk rfl (by kernel_rfl) rfl rfl rfl rfl (fun _ => e_move hk rfl _) fun a hk => ?_
      refine d0 1 hk rfl (by kernel_rfl) rfl rfl rfl rfl (fun _ => e_sub hk rfl rfl (i64 (by omega) (by omega)) _) fun a hk => ?_
      refine d0 2 hk rfl (by kernel_rfl) rfl rfl rfl rfl (fun _ => e_idxA1 (j - 15) hk rfl rfl Tryd.underlying100 sz29 (by omega) (by omega) _) fun a hk => ?_
      refine d1 3 hk rfl (by kernel_rfl) rfl rfl rfl rfl (r_load hk rfl Tryd.underlying29 rfl h3 (words_at _ _ _ (j - 15) (by omega) (by rw [length_sched]; omega))) fun a hk => ?_
      refine d0 4 hk rfl (by kernel_rfl) rfl rfl rfl rfl (fun _ => e_move hk rfl _) fun a hk => ?_
      refine d0 5 hk rfl (by kernel_rfl) rfl rfl rfl rfl (fun _ => e_sub hk rfl rfl (i64 (by omega) (by omega)) _) fun a hk => ?_
      refine d0 6 hk rfl (by kernel_rfl) rfl rfl rfl rfl (fun _ => e_idxA1 (j - 2) hk rfl rfl Tryd.underlying100 sz29 (by omega) (by omega) _) fun a hk => ?_
      refine d1 7 hk rfl (by kernel_rfl) rfl rfl rfl rfl (r_load hk rfl Tryd.underlying29 rfl h3 (words_at _ _ _ (j - 2) (by omega) (by rw [length_sched]; omega))) fun a hk => ?_
      refine d0 8 hk rfl (by kernel_rfl) rfl rfl rfl rfl (fun _ => e_assign hk rfl _) fun a hk => ?_
      refine d0 9 hk rfl (by kernel_rfl) rfl rfl rfl rfl (fun _ => e_assign hk rfl _) fun a hk => ?_
      refine okFin (by kernel_rfl) (hK17 _ _ ?_)
      refine wp_seq_k fun K18 hK18 => ?_
      refine wp_region_lit ?_
      refine ls hk rfl rfl rfl (e_move hk rfl _) fun a hk => ?_
      refine la hk rfl (a_call hk rfl rfl (c_fn hk rfl ok132) (c132 _ _ 7 (by decide) (by decide) (by decide) _) ?_)
      rintro e w' ⟨rfl, rfl⟩
      refine ⟨_, rfl, fun a hk => ?_⟩
      refine ls hk rfl rfl rfl (e_move hk rfl _) fun a hk => ?_
      refine la hk rfl (a_call hk rfl rfl (c_fn hk rfl ok132) (c132 _ _ 18 (by decide) (by decide) (by decide) _) ?_)
      rintro e w' ⟨rfl, rfl⟩
      refine ⟨_, rfl, fun a hk => ?_⟩
      refine ls hk rfl rfl rfl (e_xor hk rfl rfl (w_xor _ _) _) fun a hk => ?_
      refine ls hk rfl rfl rfl (e_move hk rfl _) fun a hk => ?_
      refine ls hk rfl rfl rfl (e_shr hk rfl rfl (by decide) (w_shr _ 3 (by decide)) _) fun a hk => ?_
      refine ls hk rfl rfl rfl (e_xor hk rfl rfl (w_xor _ _) _) fun a hk => ?_
      refine ls hk rfl rfl rfl (e_assign hk rfl _) fun a hk => ?_
      refine lnil (hK18 _ _ ?_)
      refine wp_seq_k fun K19 hK19 => ?_
      refine wp_region_lit ?_
      refine ls hk rfl rfl rfl (e_move hk rfl _) fun a hk => ?_
      refine la hk rfl (a_call hk rfl rfl (c_fn hk rfl ok132) (c132 _ _ 17 (by decide) (by decide) (by decide) _) ?_)
      rintro e w' ⟨rfl, rfl⟩
      refine ⟨_, rfl, fun a hk => ?_⟩
      refine ls hk rfl rfl rfl (e_move hk rfl _) fun a hk => ?_
      refine la hk rfl (a_call hk rfl rfl (c_fn hk rfl ok132) (c132 _ _ 19 (by decide) (by decide) (by decide) _) ?_)
      rintro e w' ⟨rfl, rfl⟩
      refine ⟨_, rfl, fun a hk => ?_⟩
      refine ls hk rfl rfl rfl (e_xor hk rfl rfl (w_xor _ _) _) fun a hk => ?_
      refine ls hk rfl rfl rfl (e_move hk rfl _) fun a hk => ?_
      refine ls hk rfl rfl rfl (e_shr hk rfl rfl (by decide) (w_shr _ 10 (by decide)) _) fun a hk => ?_
      refine ls hk rfl rfl rfl (e_xor hk rfl rfl (w_xor _ _) _) fun a hk => ?_
      refine ls hk rfl rfl rfl (e_assign hk rfl _) fun a hk => ?_
      refine lnil (hK19 _ _ ?_)
      refine wp_region_ok (fun _ => True) [0, 0, 0, 0, 1, 0, 0, 0, 0, 0, 1, 0, 0, 0, 0, 2] mixed ?_
      have hB := hB.drew
      refine d0 0 hk rfl (by kernel_rfl) rfl rfl rfl rfl (fun _ => e_move hk rfl _) fun a hk => ?_
      refine d0 1 hk rfl (by kernel_rfl) rfl rfl rfl rfl (fun _ => e_move hk rfl _) fun a hk => ?_
      refine d0 2 hk rfl (by kernel_rfl) rfl rfl rfl rfl (fun _ => e_sub hk rfl rfl (i64 (by omega) (by omega)) _) fun a hk => ?_
      refine d0 3 hk rfl (by kernel_rfl) rfl rfl rfl rfl (fun _ => e_idxA1 (j - 16) hk rfl rfl Tryd.underlying100 sz29 (by omega) (by omega) _) fun a hk => ?_
      refine d1 4 hk rfl (by kernel_rfl) rfl rfl rfl rfl (r_load hk rfl Tryd.underlying29 rfl h3 (words_at _ _ _ (j - 16) (by omega) (by rw [length_sched]; omega))) fun a hk => ?_
      refine d0 5 hk rfl (by kernel_rfl) rfl rfl rfl rfl (fun _ => e_move hk rfl _) fun a hk => ?_
      refine d0 6 hk rfl (by kernel_rfl) rfl rfl rfl rfl (fun _ => e_add hk rfl rfl (w_add _ _) _) fun a hk => ?_
      refine d0 7 hk rfl (by kernel_rfl) rfl rfl rfl rfl (fun _ => e_move hk rfl _) fun a hk => ?_
      refine d0 8 hk rfl (by kernel_rfl) rfl rfl rfl rfl (fun _ => e_sub hk rfl rfl (i64 (by omega) (by omega)) _) fun a hk => ?_
      refine d0 9 hk rfl (by kernel_rfl) rfl rfl rfl rfl (fun _ => e_idxA1 (j - 7) hk rfl rfl Tryd.underlying100 sz29 (by omega) (by omega) _) fun a hk => ?_
      refine d1 10 hk rfl (by kernel_rfl) rfl rfl rfl rfl (r_load hk rfl Tryd.underlying29 rfl h3 (words_at _ _ _ (j - 7) (by omega) (by rw [length_sched]; omega))) fun a hk => ?_
      refine d0 11 hk rfl (by kernel_rfl) rfl rfl rfl rfl (fun _ => e_add hk rfl rfl (w_add _ _) _) fun a hk => ?_
      refine d0 12 hk rfl (by kernel_rfl) rfl rfl rfl rfl (fun _ => e_move hk rfl _) fun a hk => ?_
      refine d0 13 hk rfl (by kernel_rfl) rfl rfl rfl rfl (fun _ => e_add hk rfl rfl (w_add _ _) _) fun a hk => ?_
      refine d0 14 hk rfl (by kernel_rfl) rfl rfl rfl rfl (fun _ => e_idxA1 j hk rfl rfl Tryd.underlying100 sz29 rfl (by omega) _) fun a hk => ?_
      refine da 15 hk rfl (by kernel_rfl) rfl rfl (a_store hk rfl rfl rfl sz29 h3 (by simp [length_sched]; omega) fun a w hk W9 => ?_)
      refine okFin (by kernel_rfl) (hK7 _ _ ?_)
      have hB := W9.below hB hg3
      have h2 := W9.keep hne h2
      have h3 : w.heap[b3]? = some (.cells ((sched bs (j + 1) ++ List.replicate (64 - (j + 1)) 0).map W).toArray 100 (0, 0)) := by
        have h := W9.at_
        rw [show 64 - j = (63 - j) + 1 by omega, List.replicate_succ, show sched bs j ++ 0 :: List.replicate (63 - j) 0 = sched bs j ++ [0] ++ List.replicate (63 - j) 0 by simp,
          words_set _ _ _ _ _ (by rw [length_sched]; omega)] at h
        rw [h, show 64 - (j + 1) = 63 - j by omega, sched, if_neg (by omega)]
        rfl
      refine wp_region_lit ?_
      refine ls hk rfl rfl rfl (e_add hk rfl rfl (i64 (by omega) (by omega)) _) fun a hk => ?_
      refine ls hk rfl rfl rfl (e_move hk rfl _) fun a hk => ?_
      refine lnil (show ∃ m : Nat, m < _ ∧ _ from ⟨64 - (j + 1), by omega, j + 1, rfl, by omega, hk.sub _ ⟨rfl, rfl, rfl, rfl, trivial⟩, hB, ⟨_, h2, hz⟩, h3⟩)
  · have hj1 : j = 64 := by have := of_decide_eq_false hb; omega
    subst hj1
    refine wp_exit (hK3 _ _ ?_)
    refine wp_seq_k fun K20 hK20 => ?_
    refine wp_region_lit ?_
    refine ls hk rfl rfl rfl (r_loadB hk rfl h3 Tryd.underlying100 rfl (by rw [sz100]; simp [length_sched])) fun a hk => ?_
    refine la hk rfl (a_storeB hk rfl rfl (words_one _) (by rw [sz100]; simp [length_sched]) h2 (by rw [hz]; simp [length_sched]) fun a w hk W16 => ?_)
    refine lnil (hK20 _ _ ?_)
    refine wp_ret ?_
    refine retA hk rfl rfl W16.at_ Tryd.underlying100 rfl (by rw [sz100]; simp [length_sched]) ⟨by simp, W16.below hB hg2⟩

end Go.Proofs.YtidfbboalbchiaaDoor

namespace Go.Proofs.YtidfbboalbchiaaDoor
open Go Go.RowKit

def S8.lo (s : S8) : List UInt32 := [s.a, s.b, s.c, s.d]
def S8.hi (s : S8) : List UInt32 := [s.e, s.f, s.g, s.h]
/-- The hash value while it is updated: the first i words of each half are. -/
def mid (s v : S8) (i : Nat) : List UInt32 := (List.range 8).map fun j => if j % 4 < i then s.list.getD j 0 + v.list.getD j 0 else s.list.getD j 0
theorem length_mid (s v : S8) (i : Nat) : (mid s v i).length = 8 := by simp [mid]
theorem mid0 (s v : S8) : mid s v 0 = s.list := rfl
theorem mid4 (s v : S8) : mid s v 4 = (s.add v).list := rfl
theorem range_set (f : Nat → UInt32) (n i : Nat) (x : UInt32) : ((List.range n).map f).set i x = (List.range n).map fun j => if j = i then x else f j := by
  apply List.ext_getElem?
  intro j
  rw [List.getElem?_set]
  by_cases hj : j < n
  · by_cases hij : i = j
    · subst hij; simp [hj]
    · simp [hij, hj, Ne.symm hij]
  · by_cases hij : i = j
    · subst hij; simp [hj]
    · simp [hij, hj]
theorem mid_step (s v : S8) (i : Nat) (hi : i < 4) : ((mid s v i).set i (s.list.getD i 0 + v.list.getD i 0)).set (i + 4) (s.list.getD (i + 4) 0 + v.list.getD (i + 4) 0) = mid s v (i + 1) := by
  unfold mid
  rw [range_set, range_set]
  apply List.map_congr_left
  intro j hj
  have hj8 : j < 8 := List.mem_range.1 hj
  by_cases h1 : j = i + 4
  · subst h1
    rw [if_pos rfl, if_pos (by omega)]
  · rw [if_neg h1]
    by_cases h2 : j = i
    · subst h2
      rw [if_pos rfl, if_pos (by omega)]
    · rw [if_neg h2]
      by_cases h3 : j % 4 < i
      · rw [if_pos h3, if_pos (by omega)]
      · rw [if_neg h3, if_neg (by omega)]
theorem mid_at (s v : S8) (i : Nat) (hi : i < 4) : (mid s v i)[i]? = some (s.list.getD i 0) := by
  unfold mid
  simp [show i < 8 by omega, show ¬ i % 4 < i by omega]
theorem mid_at4 (s v : S8) (i : Nat) (hi : i < 4) (x : UInt32) : ((mid s v i).set i x)[i + 4]? = some (s.list.getD (i + 4) 0) := by
  rw [List.getElem?_set]
  unfold mid
  simp [show i + 4 < 8 by omega, show ¬ i % 4 < i by omega]
theorem map_set_w (l : List UInt32) (i n : Nat) (x : UInt32) (h : n = i) : ((l.map W).toArray).setIfInBounds n (W x) = ((l.set i x).map W).toArray := by
  subst h
  simp [List.map_set]
theorem map_get_w (l : List UInt32) (i n : Nat) (x : UInt32) (h : n = i) (hx : l[i]? = some x) : (l.map W).toArray[n]? = some (W x) := by
  subst h
  simp [hx]
theorem four (p : Nat → Prop) (h0 : p 0) (h1 : p 1) (h2 : p 2) (h3 : p 3) : ∀ i, i < 4 → p i := by
  intro i hi
  have : i = 0 ∨ i = 1 ∨ i = 2 ∨ i = 3 := by omega
  rcases this with rfl | rfl | rfl | rfl <;> assumption
theorem range_ext {w w' : World} {b o : Nat} {xs : List Value} (hE : Ext w w') (h : w.rangeAt b o xs) : w'.rangeAt b o xs := fun j u hu => ext_cell hE (h j u hu)
/-- The constants' variable of package hash. -/
def GH (w : World) : Prop := w.rangeAt 1 0 (kc.map W)
theorem GH.ext {w w' : World} (h : GH w) (hE : Ext w w') : GH w' := range_ext hE h
theorem cmp_words (x y z : UInt32) : x ^^^ y ^^^ z = x ^^^ y ^^^ z := rfl

set_option maxRecDepth 4000 in
set_option maxHeartbeats 1000000 in
theorem c70 (s : S8) (bs : List UInt8) (bb oo cc : Nat) (w0 : World) (hl : bs.length = 64) (hR : Rd w0 (some ⟨bb, oo, none⟩) 64 cc 1 (bs.map B)) (hG : GH w0) :
    Calls Tryd.prog 70 #[.agg (s.list.map W).toArray, .slice (some ⟨bb, oo, none⟩) 64 cc] w0 fun e w' => e = .returned (.agg ((compress s bs).list.map W).toArray) ∧ Ext w0 w' := by
  refine start 116 Tryd.func70 rfl rfl rfl fun a hk => ?_
  refine wp_seq_k fun K1 hK1 => ?_
  refine wp_region_lit ?_
  refine la hk rfl (a_box hk rfl rfl fun a w b2 hk G2 => ?_)
  refine la hk rfl (a_alloc hk rfl zr30 fun a w b4 hk G4 => ?_)
  refine lnil (hK1 _ _ ?_)
  refine wp_seq_k fun K2 hK2 => ?_
  have hB : Below w0.heap.size w0 w := ext_trans G2.ext G4.ext
  have h2 : w.heap[b2]? = some (.cells ((s.list).map W).toArray 30 (0, 0)) := ext_at G4.ext G2.at_
  have h4 := G4.at_
  have n24 : b2 ≠ b4 := G4.ne G2.at_
  have hg2 := G2.ge
  have hg4 : w0.heap.size ≤ b4 := Nat.le_trans G2.ext.size G4.ge
  clear G2 G4
  refine wp_region_lit ?_
  refine ls hk rfl rfl rfl (e_move hk rfl _) fun a hk => ?_
  refine la hk rfl (a_call hk rfl rfl (c_fn hk rfl ok120) (c120 bs bb oo cc _ hl (hR.ext hB)) ?_)
  rintro e w ⟨rfl, hE⟩
  refine ⟨_, rfl, fun a hk => ?_⟩
  have h2 := ext_at hE h2
  have h4 := ext_at hE h4
  have hB := ext_trans hB hE
  clear hE
  refine la hk rfl (a_alloc hk rfl zr100 fun a w b5 hk G5 => ?_)
  have n25 : b2 ≠ b5 := G5.ne h2
  have n45 : b4 ≠ b5 := G5.ne h4
  have hg5 : w0.heap.size ≤ b5 := Nat.le_trans hB.size G5.ge
  have hB := ext_trans hB G5.ext
  have h2 := ext_at G5.ext h2
  have h4 := ext_at G5.ext h4
  refine la hk rfl (a_storeB hk rfl rfl (words_one _) (by rw [sz100]; simp [length_sched]) G5.at_ (by simp [Value.cells, length_sched]) fun a w hk W5 => ?_)
  have hB := W5.below hB hg5
  have h2 := W5.keep n25 h2
  have h4 := W5.keep n45 h4
  have h5 := W5.at_
  have hsz := hB.size
  clear G5 W5
  refine lnil (hK2 _ _ ?_)
  refine wp_seq_k fun K3 hK3 => ?_
  have hJ3 : ∀ (a : Act) (w : World), ∀ (b6 b7 : Nat), Kn a 116 [(2, .pointer (some ⟨b2, 0, none⟩)), (4, .pointer (some ⟨b4, 0, none⟩)), (5, .pointer (some ⟨b5, 0, none⟩)), (6, .pointer (some ⟨b6, 0, none⟩)), (7, .pointer (some ⟨b7, 0, none⟩))] ∧ Below w0.heap.size w0 w ∧ w.heap[b2]? = some (.cells ((s.list).map W).toArray 30 (0, 0)) ∧ w.heap[b4]? = some (.cells (Value.agg (List.replicate 8 (Value.int .u32 0)).toArray).cells 30 (0, 0)) ∧ w.heap[b5]? = some (.cells ((sched bs 64).map W).toArray 100 (0, 0)) ∧ w.heap[b6]? = some (.cells ((s.lo).map W).toArray 154 (0, 0)) ∧ w.heap[b7]? = some (.cells ((s.hi).map W).toArray 154 (0, 0)) ∧ b2 ≠ b6 ∧ b2 ≠ b7 ∧ b4 ≠ b6 ∧ b4 ≠ b7 ∧ b5 ≠ b6 ∧ b5 ≠ b7 ∧ b6 ≠ b7 ∧ w0.heap.size ≤ b6 ∧ w0.heap.size ≤ b7 → K3 a w := by
    intro a w b6 b7 ⟨hk, hB, h2, h4, h5, h6, h7, n26, n27, n46, n47, n56, n57, n67, hg6, hg7⟩
    refine hK3 _ _ ?_
    refine wp_seq_k fun K4 hK4 => ?_
    refine wp_seq_k fun K5 hK5 => ?_
    refine wp_region_lit ?_
    refine ls hk rfl rfl rfl (r_loadR (xs := kc.map W) hk rfl (hG.ext hB) Tryd.underlying100 rfl sz100) fun a hk => ?_
    refine ls hk rfl rfl rfl (e_move hk rfl _) fun a hk => ?_
    refine lnil (hK5 _ _ ?_)
    refine wp_block ?_
    refine loopN (fun n a w => ∃ t : Nat, n = 64 - t ∧ t ≤ 64 ∧ Kn a 116 [(2, .pointer (some ⟨b2, 0, none⟩)), (4, .pointer (some ⟨b4, 0, none⟩)), (5, .pointer (some ⟨b5, 0, none⟩)), (6, .pointer (some ⟨b6, 0, none⟩)), (7, .pointer (some ⟨b7, 0, none⟩)), (21, .agg (kc.map W).toArray), (22, I t)] ∧ Below w0.heap.size w0 w ∧ w.heap[b2]? = some (.cells ((s.list).map W).toArray 30 (0, 0)) ∧ (∃ z, w.heap[b4]? = some (.cells z 30 (0, 0)) ∧ z.size = 8) ∧ w.heap[b5]? = some (.cells ((sched bs 64).map W).toArray 100 (0, 0)) ∧ w.heap[b6]? = some (.cells (((rnds (sched bs 64) s t).lo).map W).toArray 154 (0, 0)) ∧ w.heap[b7]? = some (.cells (((rnds (sched bs 64) s t).hi).map W).toArray 154 (0, 0))) (64) ?_ fun n a w hI => ?_
    · exact ⟨0, rfl, by omega, hk.sub _ ⟨rfl, rfl, rfl, rfl, rfl, rfl, rfl, trivial⟩, hB, h2, ⟨_, h4, rfl⟩, h5, h6, h7⟩
    clear hB h2 h4 h5 h6 h7
    obtain ⟨t, rfl, ht, hk, hB, h2, ⟨z, h4, hz⟩, h5, h6, h7⟩ := hI
    refine wp_seq_k fun K6 hK6 => ?_
    refine wp_region_lit ?_
    refine ls hk rfl rfl rfl (e_lss hk rfl rfl rfl _) fun a hk => ?_
    refine lnil (hK6 _ _ ?_)
    refine wp_seq_k fun K7 hK7 => ?_
    refine cdB hk rfl (fun hb => ?_) (fun hb => ?_)
    · have ht1 : t < 64 := by have := of_decide_eq_true hb; omega
      generalize hr : rnds (sched bs 64) s t = r at h6 h7
      refine wp_skip (hK7 _ _ ?_)
      refine wp_seq_k fun K8 hK8 => ?_
      refine wp_block ?_
      refine wp_seq_k fun K9 hK9 => ?_
      refine wp_region_lit ?_
      refine ls hk rfl rfl rfl (e_move hk rfl _) fun a hk => ?_
      refine ls hk rfl rfl rfl (e_idxV hk rfl rfl Tryd.underlying100 Tryd.underlying29 rfl sz29 (by omega) (by omega) (map_get_w kc t _ (kc.getD t 0) (by omega) (by simp [show t < kc.length from ht1])) _) fun a hk => ?_
      refine ls hk rfl rfl rfl (e_assign hk rfl _) fun a hk => ?_
      refine ls hk rfl rfl rfl (e_assign hk rfl _) fun a hk => ?_
      refine lnil (hK9 _ _ ?_)
      refine wp_seq_k fun K10 hK10 => ?_
      refine wp_region_ok (fun w' => w'.heap[b7]? = some (.cells (r.hi.map W).toArray 154 (0, 0)) ∧ w'.heap[b5]? = some (.cells ((sched bs 64).map W).toArray 100 (0, 0))) [0, 3, 0, 3, 4, 0, 0, 3, 0, 3, 0, 0, 3, 0, 0, 3, 0, 0, 0, 0, 0, 0, 0, 3, 0, 0] mixed ?_
      have hS : w.drew.heap[b7]? = some (.cells (r.hi.map W).toArray 154 (0, 0)) ∧ w.drew.heap[b5]? = some (.cells ((sched bs 64).map W).toArray 100 (0, 0)) := ⟨h7, h5⟩
      have hB := hB.drew
      refine d0 0 hk rfl (by kernel_rfl) rfl rfl rfl rfl (fun _ => e_idxA1 3 hk rfl rfl Tryd.underlying154 sz29 rfl (by decide) _) fun a hk => ?_
      refine d3 1 hk rfl (by kernel_rfl) rfl rfl rfl rfl hS (fun w hS => r_load (v := W r.h) hk rfl Tryd.underlying29 rfl hS.1 rfl) fun a hk => ?_
      refine d0 2 hk rfl (by kernel_rfl) rfl rfl rfl rfl (fun _ => e_idxA1 0 hk rfl rfl Tryd.underlying154 sz29 rfl (by decide) _) fun a hk => ?_
      refine d3 3 hk rfl (by kernel_rfl) rfl rfl rfl rfl hS (fun w hS => r_load (v := W r.e) hk rfl Tryd.underlying29 rfl hS.1 rfl) fun a hk => ?_
      refine da4 4 hk rfl (by kernel_rfl) rfl rfl hS (a_call hk rfl rfl (c_fn hk rfl ok121) (c121 r.e 6 11 25 (by decide) (by decide) (by decide) _) ?_)
      rintro e w' ⟨rfl, rfl⟩
      refine ⟨_, rfl, fun a hk => ⟨hS, ?_⟩⟩
      refine d0 5 hk rfl (by kernel_rfl) rfl rfl rfl rfl (fun _ => e_add hk rfl rfl (w_add _ _) _) fun a hk => ?_
      refine d0 6 hk rfl (by kernel_rfl) rfl rfl rfl rfl (fun _ => e_idxA1 0 hk rfl rfl Tryd.underlying154 sz29 rfl (by decide) _) fun a hk => ?_
      refine d3 7 hk rfl (by kernel_rfl) rfl rfl rfl rfl hS (fun w hS => r_load (v := W r.e) hk rfl Tryd.underlying29 rfl hS.1 rfl) fun a hk => ?_
      refine d0 8 hk rfl (by kernel_rfl) rfl rfl rfl rfl (fun _ => e_idxA1 1 hk rfl rfl Tryd.underlying154 sz29 rfl (by decide) _) fun a hk => ?_
      refine d3 9 hk rfl (by kernel_rfl) rfl rfl rfl rfl hS (fun w hS => r_load (v := W r.f) hk rfl Tryd.underlying29 rfl hS.1 rfl) fun a hk => ?_
      refine d0 10 hk rfl (by kernel_rfl) rfl rfl rfl rfl (fun _ => e_and hk rfl rfl (w_and _ _) _) fun a hk => ?_
      refine d0 11 hk rfl (by kernel_rfl) rfl rfl rfl rfl (fun _ => e_idxA1 0 hk rfl rfl Tryd.underlying154 sz29 rfl (by decide) _) fun a hk => ?_
      refine d3 12 hk rfl (by kernel_rfl) rfl rfl rfl rfl hS (fun w hS => r_load (v := W r.e) hk rfl Tryd.underlying29 rfl hS.1 rfl) fun a hk => ?_
      refine d0 13 hk rfl (by kernel_rfl) rfl rfl rfl rfl (fun _ => e_cpl hk rfl rfl (w_cpl _) _) fun a hk => ?_
      refine d0 14 hk rfl (by kernel_rfl) rfl rfl rfl rfl (fun _ => e_idxA1 2 hk rfl rfl Tryd.underlying154 sz29 rfl (by decide) _) fun a hk => ?_
      refine d3 15 hk rfl (by kernel_rfl) rfl rfl rfl rfl hS (fun w hS => r_load (v := W r.g) hk rfl Tryd.underlying29 rfl hS.1 rfl) fun a hk => ?_
      refine d0 16 hk rfl (by kernel_rfl) rfl rfl rfl rfl (fun _ => e_and hk rfl rfl (w_and _ _) _) fun a hk => ?_
      refine d0 17 hk rfl (by kernel_rfl) rfl rfl rfl rfl (fun _ => e_xor hk rfl rfl (w_xor _ _) _) fun a hk => ?_
      refine d0 18 hk rfl (by kernel_rfl) rfl rfl rfl rfl (fun _ => e_add hk rfl rfl (w_add _ _) _) fun a hk => ?_
      refine d0 19 hk rfl (by kernel_rfl) rfl rfl rfl rfl (fun _ => e_move hk rfl _) fun a hk => ?_
      refine d0 20 hk rfl (by kernel_rfl) rfl rfl rfl rfl (fun _ => e_add hk rfl rfl (w_add _ _) _) fun a hk => ?_
      refine d0 21 hk rfl (by kernel_rfl) rfl rfl rfl rfl (fun _ => e_move hk rfl _) fun a hk => ?_
      refine d0 22 hk rfl (by kernel_rfl) rfl rfl rfl rfl (fun _ => e_idxA1 t hk rfl rfl Tryd.underlying100 sz29 rfl (by omega) _) fun a hk => ?_
      refine d3 23 hk rfl (by kernel_rfl) rfl rfl rfl rfl hS (fun w hS => r_load hk rfl Tryd.underlying29 rfl hS.2 (map_get_w _ t _ ((sched bs 64).getD t 0) (by omega) (by simp [length_sched, ht1]))) fun a hk => ?_
      refine d0 24 hk rfl (by kernel_rfl) rfl rfl rfl rfl (fun _ => e_add hk rfl rfl (w_add _ _) _) fun a hk => ?_
      refine d0 25 hk rfl (by kernel_rfl) rfl rfl rfl rfl (fun _ => e_assign hk rfl _) fun a hk => ?_
      have hk := hk.sub [(2, .pointer (some ⟨b2, 0, none⟩)), (4, .pointer (some ⟨b4, 0, none⟩)), (5, .pointer (some ⟨b5, 0, none⟩)), (6, .pointer (some ⟨b6, 0, none⟩)), (7, .pointer (some ⟨b7, 0, none⟩)), (21, .agg (kc.map W).toArray), (22, I t), (10, W (xOf (kc.getD t 0) ((sched bs 64).getD t 0) r))] ⟨rfl, rfl, rfl, rfl, rfl, rfl, rfl, rfl, trivial⟩
      refine okFin (by kernel_rfl) (hK10 _ _ ?_)
      refine wp_seq_k fun K11 hK11 => ?_
      refine wp_region_ok (fun w' => w'.heap[b6]? = some (.cells (r.lo.map W).toArray 154 (0, 0))) [0, 3, 4, 0, 3, 0, 3, 0, 0, 3, 0, 3, 0, 0, 0, 3, 0, 3, 0, 0, 0, 0] mixed ?_
      have hS : w.drew.drew.heap[b6]? = some (.cells (r.lo.map W).toArray 154 (0, 0)) := h6
      have hB := hB.drew
      refine d0 0 hk rfl (by kernel_rfl) rfl rfl rfl rfl (fun _ => e_idxA1 0 hk rfl rfl Tryd.underlying154 sz29 rfl (by decide) _) fun a hk => ?_
      refine d3 1 hk rfl (by kernel_rfl) rfl rfl rfl rfl hS (fun w hS => r_load (v := W r.a) hk rfl Tryd.underlying29 rfl hS rfl) fun a hk => ?_
      refine da4 2 hk rfl (by kernel_rfl) rfl rfl hS (a_call hk rfl rfl (c_fn hk rfl ok121) (c121 r.a 2 13 22 (by decide) (by decide) (by decide) _) ?_)
      rintro e w' ⟨rfl, rfl⟩
      refine ⟨_, rfl, fun a hk => ⟨hS, ?_⟩⟩
      refine d0 3 hk rfl (by kernel_rfl) rfl rfl rfl rfl (fun _ => e_idxA1 0 hk rfl rfl Tryd.underlying154 sz29 rfl (by decide) _) fun a hk => ?_
      refine d3 4 hk rfl (by kernel_rfl) rfl rfl rfl rfl hS (fun w hS => r_load (v := W r.a) hk rfl Tryd.underlying29 rfl hS rfl) fun a hk => ?_
      refine d0 5 hk rfl (by kernel_rfl) rfl rfl rfl rfl (fun _ => e_idxA1 1 hk rfl rfl Tryd.underlying154 sz29 rfl (by decide) _) fun a hk => ?_
      refine d3 6 hk rfl (by kernel_rfl) rfl rfl rfl rfl hS (fun w hS => r_load (v := W r.b) hk rfl Tryd.underlying29 rfl hS rfl) fun a hk => ?_
      refine d0 7 hk rfl (by kernel_rfl) rfl rfl rfl rfl (fun _ => e_and hk rfl rfl (w_and _ _) _) fun a hk => ?_
      refine d0 8 hk rfl (by kernel_rfl) rfl rfl rfl rfl (fun _ => e_idxA1 0 hk rfl rfl Tryd.underlying154 sz29 rfl (by decide) _) fun a hk => ?_
      refine d3 9 hk rfl (by kernel_rfl) rfl rfl rfl rfl hS (fun w hS => r_load (v := W r.a) hk rfl Tryd.underlying29 rfl hS rfl) fun a hk => ?_
      refine d0 10 hk rfl (by kernel_rfl) rfl rfl rfl rfl (fun _ => e_idxA1 2 hk rfl rfl Tryd.underlying154 sz29 rfl (by decide) _) fun a hk => ?_
      refine d3 11 hk rfl (by kernel_rfl) rfl rfl rfl rfl hS (fun w hS => r_load (v := W r.c) hk rfl Tryd.underlying29 rfl hS rfl) fun a hk => ?_
      refine d0 12 hk rfl (by kernel_rfl) rfl rfl rfl rfl (fun _ => e_and hk rfl rfl (w_and _ _) _) fun a hk => ?_
      refine d0 13 hk rfl (by kernel_rfl) rfl rfl rfl rfl (fun _ => e_xor hk rfl rfl (w_xor _ _) _) fun a hk => ?_
      refine d0 14 hk rfl (by kernel_rfl) rfl rfl rfl rfl (fun _ => e_idxA1 1 hk rfl rfl Tryd.underlying154 sz29 rfl (by decide) _) fun a hk => ?_
      refine d3 15 hk rfl (by kernel_rfl) rfl rfl rfl rfl hS (fun w hS => r_load (v := W r.b) hk rfl Tryd.underlying29 rfl hS rfl) fun a hk => ?_
      refine d0 16 hk rfl (by kernel_rfl) rfl rfl rfl rfl (fun _ => e_idxA1 2 hk rfl rfl Tryd.underlying154 sz29 rfl (by decide) _) fun a hk => ?_
      refine d3 17 hk rfl (by kernel_rfl) rfl rfl rfl rfl hS (fun w hS => r_load (v := W r.c) hk rfl Tryd.underlying29 rfl hS rfl) fun a hk => ?_
      refine d0 18 hk rfl (by kernel_rfl) rfl rfl rfl rfl (fun _ => e_and hk rfl rfl (w_and _ _) _) fun a hk => ?_
      refine d0 19 hk rfl (by kernel_rfl) rfl rfl rfl rfl (fun _ => e_xor hk rfl rfl (w_xor _ _) _) fun a hk => ?_
      refine d0 20 hk rfl (by kernel_rfl) rfl rfl rfl rfl (fun _ => e_add hk rfl rfl (w_add _ _) _) fun a hk => ?_
      refine d0 21 hk rfl (by kernel_rfl) rfl rfl rfl rfl (fun _ => e_assign hk rfl _) fun a hk => ?_
      have hk := hk.sub [(2, .pointer (some ⟨b2, 0, none⟩)), (4, .pointer (some ⟨b4, 0, none⟩)), (5, .pointer (some ⟨b5, 0, none⟩)), (6, .pointer (some ⟨b6, 0, none⟩)), (7, .pointer (some ⟨b7, 0, none⟩)), (21, .agg (kc.map W).toArray), (22, I t), (10, W (xOf (kc.getD t 0) ((sched bs 64).getD t 0) r)), (11, W (yOf' r))] ⟨rfl, rfl, rfl, rfl, rfl, rfl, rfl, rfl, rfl, trivial⟩
      refine okFin (by kernel_rfl) (hK11 _ _ ?_)
      refine wp_seq_k fun K12 hK12 => ?_
      refine wp_region_lit ?_
      refine ls hk rfl rfl rfl (e_idxA1 3 hk rfl rfl Tryd.underlying154 sz29 rfl (by decide) _) fun a hk => ?_
      refine ls hk rfl rfl rfl (r_load (v := W r.d) hk rfl Tryd.underlying29 rfl h6 rfl) fun a hk => ?_
      refine ls hk rfl rfl rfl (e_move hk rfl _) fun a hk => ?_
      refine ls hk rfl rfl rfl (e_add hk rfl rfl (w_add _ _) _) fun a hk => ?_
      refine ls hk rfl rfl rfl (e_idxA1 0 hk rfl rfl Tryd.underlying154 sz29 rfl (by decide) _) fun a hk => ?_
      refine ls hk rfl rfl rfl (r_load (v := W r.e) hk rfl Tryd.underlying29 rfl h7 rfl) fun a hk => ?_
      refine ls hk rfl rfl rfl (e_idxA1 1 hk rfl rfl Tryd.underlying154 sz29 rfl (by decide) _) fun a hk => ?_
      refine ls hk rfl rfl rfl (r_load (v := W r.f) hk rfl Tryd.underlying29 rfl h7 rfl) fun a hk => ?_
      refine ls hk rfl rfl rfl (e_idxA1 2 hk rfl rfl Tryd.underlying154 sz29 rfl (by decide) _) fun a hk => ?_
      refine ls hk rfl rfl rfl (r_load (v := W r.g) hk rfl Tryd.underlying29 rfl h7 rfl) fun a hk => ?_
      refine ls hk rfl rfl rfl (e_buildA (cells := #[W (r.d + xOf (kc.getD t 0) ((sched bs 64).getD t 0) r), W r.e, W r.f, W r.g]) hk rfl zr154 Tryd.underlying154 sz29 rfl _) fun a hk => ?_
      refine la hk rfl (a_storeB hk rfl rfl (words_one [r.d + xOf (kc.getD t 0) ((sched bs 64).getD t 0) r, r.e, r.f, r.g]) sz154 h7 (by simp [S8.hi]) fun a w hk W8 => ?_)
      have hB := W8.below hB hg7
      have h2 := W8.keep n27 h2
      have h4 := W8.keep n47 h4
      have h5 := W8.keep n57 h5
      have h6 := W8.keep n67 h6
      have h7 : w.heap[b7]? = some (.cells ((rnd (kc.getD t 0) ((sched bs 64).getD t 0) r).hi.map W).toArray 154 (0, 0)) := W8.at_
      clear W8
      refine lnil (hK12 _ _ ?_)
      refine wp_region_lit ?_
      refine ls hk rfl rfl rfl (e_move hk rfl _) fun a hk => ?_
      refine ls hk rfl rfl rfl (e_move hk rfl _) fun a hk => ?_
      refine ls hk rfl rfl rfl (e_add hk rfl rfl (w_add _ _) _) fun a hk => ?_
      refine ls hk rfl rfl rfl (e_idxA1 0 hk rfl rfl Tryd.underlying154 sz29 rfl (by decide) _) fun a hk => ?_
      refine ls hk rfl rfl rfl (r_load (v := W r.a) hk rfl Tryd.underlying29 rfl h6 rfl) fun a hk => ?_
      refine ls hk rfl rfl rfl (e_idxA1 1 hk rfl rfl Tryd.underlying154 sz29 rfl (by decide) _) fun a hk => ?_
      refine ls hk rfl rfl rfl (r_load (v := W r.b) hk rfl Tryd.underlying29 rfl h6 rfl) fun a hk => ?_
      refine ls hk rfl rfl rfl (e_idxA1 2 hk rfl rfl Tryd.underlying154 sz29 rfl (by decide) _) fun a hk => ?_
      refine ls hk rfl rfl rfl (r_load (v := W r.c) hk rfl Tryd.underlying29 rfl h6 rfl) fun a hk => ?_
      refine ls hk rfl rfl rfl (e_buildA (cells := #[W (xOf (kc.getD t 0) ((sched bs 64).getD t 0) r + yOf' r), W r.a, W r.b, W r.c]) hk rfl zr154 Tryd.underlying154 sz29 rfl _) fun a hk => ?_
      refine la hk rfl (a_storeB hk rfl rfl (words_one [xOf (kc.getD t 0) ((sched bs 64).getD t 0) r + yOf' r, r.a, r.b, r.c]) sz154 h6 (by simp [S8.lo]) fun a w hk W9 => ?_)
      have hB := W9.below hB hg6
      have h2 := W9.keep n26 h2
      have h4 := W9.keep n46 h4
      have h5 := W9.keep n56 h5
      have h7 := W9.keep (Ne.symm n67) h7
      have h6 : w.heap[b6]? = some (.cells ((rnd (kc.getD t 0) ((sched bs 64).getD t 0) r).lo.map W).toArray 154 (0, 0)) := W9.at_
      rw [← hr] at h6 h7
      clear W9
      refine lnil (hK8 _ _ ?_)
      refine wp_region_lit ?_
      refine ls hk rfl rfl rfl (e_add hk rfl rfl (i64 (by omega) (by omega)) _) fun a hk => ?_
      refine ls hk rfl rfl rfl (e_move hk rfl _) fun a hk => ?_
      refine lnil (show ∃ m : Nat, m < _ ∧ _ from ⟨64 - (t + 1), by omega, t + 1, rfl, by omega, hk.sub _ ⟨rfl, rfl, rfl, rfl, rfl, rfl, rfl, trivial⟩, hB, h2, ⟨_, h4, hz⟩, h5, h6, h7⟩)
    · have ht1 : t = 64 := by have := of_decide_eq_false hb; omega
      subst ht1
      generalize hr : rnds (sched bs 64) s 64 = r at h6 h7
      refine wp_exit (hK4 _ _ ?_)
      refine wp_seq_k fun K13 hK13 => ?_
      refine wp_seq_k fun K14 hK14 => ?_
      refine wp_region_lit ?_
      refine ls hk rfl rfl rfl (e_move hk rfl _) fun a hk => ?_
      refine lnil (hK14 _ _ ?_)
      refine wp_block ?_
      refine loopN (fun n a w => ∃ i : Nat, n = 4 - i ∧ i ≤ 4 ∧ Kn a 116 [(2, .pointer (some ⟨b2, 0, none⟩)), (4, .pointer (some ⟨b4, 0, none⟩)), (6, .pointer (some ⟨b6, 0, none⟩)), (7, .pointer (some ⟨b7, 0, none⟩)), (94, I i)] ∧ Below w0.heap.size w0 w ∧ w.heap[b2]? = some (.cells ((mid s r i).map W).toArray 30 (0, 0)) ∧ (∃ z, w.heap[b4]? = some (.cells z 30 (0, 0)) ∧ z.size = 8) ∧ w.heap[b6]? = some (.cells ((r.lo).map W).toArray 154 (0, 0)) ∧ w.heap[b7]? = some (.cells ((r.hi).map W).toArray 154 (0, 0))) (4) ?_ fun n a w hI => ?_
      · exact ⟨0, rfl, by omega, hk.sub _ ⟨rfl, rfl, rfl, rfl, rfl, trivial⟩, hB, h2, ⟨_, h4, hz⟩, h6, h7⟩
      clear hB h2 h4 h5 h6 h7 hz
      obtain ⟨i, rfl, hi, hk, hB, h2, ⟨z, h4, hz⟩, h6, h7⟩ := hI
      refine wp_seq_k fun K15 hK15 => ?_
      refine wp_region_lit ?_
      refine ls hk rfl rfl rfl (e_lss hk rfl rfl rfl _) fun a hk => ?_
      refine lnil (hK15 _ _ ?_)
      refine wp_seq_k fun K16 hK16 => ?_
      refine cdB hk rfl (fun hb => ?_) (fun hb => ?_)
      · have hi4 : i < 4 := by have := of_decide_eq_true hb; omega
        refine wp_skip (hK16 _ _ ?_)
        refine wp_seq_k fun K17 hK17 => ?_
        refine wp_block ?_
        refine wp_seq_k fun K18 hK18 => ?_
        refine wp_region_lit ?_
        refine ls hk rfl rfl rfl (e_move hk rfl _) fun a hk => ?_
        refine ls hk rfl rfl rfl (e_assign hk rfl _) fun a hk => ?_
        refine lnil (hK18 _ _ ?_)
        refine wp_seq_k fun K19 hK19 => ?_
        refine wp_region_ok (fun _ => True) [0, 0, 1, 0, 0, 1, 0, 0, 2] mixed ?_
        have hB := hB.drew
        refine d0 0 hk rfl (by kernel_rfl) rfl rfl rfl rfl (fun _ => e_move hk rfl _) fun a hk => ?_
        refine d0 1 hk rfl (by kernel_rfl) rfl rfl rfl rfl (fun _ => e_idxA1 i hk rfl rfl Tryd.underlying30 sz29 rfl (by omega) _) fun a hk => ?_
        refine d1 2 hk rfl (by kernel_rfl) rfl rfl rfl rfl (r_load hk rfl Tryd.underlying29 rfl h2 (map_get_w _ i _ _ (by omega) (mid_at s r i hi4))) fun a hk => ?_
        refine d0 3 hk rfl (by kernel_rfl) rfl rfl rfl rfl (fun _ => e_move hk rfl _) fun a hk => ?_
        refine d0 4 hk rfl (by kernel_rfl) rfl rfl rfl rfl (fun _ => e_idxA1 i hk rfl rfl Tryd.underlying154 sz29 rfl (by omega) _) fun a hk => ?_
        refine d1 5 hk rfl (by kernel_rfl) rfl rfl rfl rfl (r_load hk rfl Tryd.underlying29 rfl h6 (map_get_w _ i _ (r.list.getD i 0) (by omega) (four (fun i => r.lo[i]? = some (r.list.getD i 0)) rfl rfl rfl rfl i hi4))) fun a hk => ?_
        refine d0 6 hk rfl (by kernel_rfl) rfl rfl rfl rfl (fun _ => e_add hk rfl rfl (w_add _ _) _) fun a hk => ?_
        refine d0 7 hk rfl (by kernel_rfl) rfl rfl rfl rfl (fun _ => e_idxA1 i hk rfl rfl Tryd.underlying30 sz29 rfl (by omega) _) fun a hk => ?_
        refine da 8 hk rfl (by kernel_rfl) rfl rfl (a_store hk rfl rfl rfl sz29 h2 (by simp [length_mid]; omega) fun a w hk W14 => ?_)
        have hB := W14.below hB hg2
        have h4 := W14.keep (Ne.symm n24) h4
        have h6 := W14.keep (Ne.symm n26) h6
        have h7 := W14.keep (Ne.symm n27) h7
        have h2 := W14.at_
        rw [map_set_w _ i _ _ (by omega)] at h2
        clear W14
        refine okFin (by kernel_rfl) (hK19 _ _ ?_)
        refine wp_region_ok (fun _ => True) [0, 0, 0, 1, 0, 0, 1, 0, 0, 2] mixed ?_
        have hB := hB.drew
        refine d0 0 hk rfl (by kernel_rfl) rfl rfl rfl rfl (fun _ => e_move hk rfl _) fun a hk => ?_
        refine d0 1 hk rfl (by kernel_rfl) rfl rfl rfl rfl (fun _ => e_add hk rfl rfl (i64 (by omega) (by omega)) _) fun a hk => ?_
        refine d0 2 hk rfl (by kernel_rfl) rfl rfl rfl rfl (fun _ => e_idxA1 (i + 4) hk rfl rfl Tryd.underlying30 sz29 (by omega) (by omega) _) fun a hk => ?_
        refine d1 3 hk rfl (by kernel_rfl) rfl rfl rfl rfl (r_load hk rfl Tryd.underlying29 rfl h2 (map_get_w _ (i + 4) _ _ (by omega) (mid_at4 s r i hi4 _))) fun a hk => ?_
        refine d0 4 hk rfl (by kernel_rfl) rfl rfl rfl rfl (fun _ => e_move hk rfl _) fun a hk => ?_
        refine d0 5 hk rfl (by kernel_rfl) rfl rfl rfl rfl (fun _ => e_idxA1 i hk rfl rfl Tryd.underlying154 sz29 rfl (by omega) _) fun a hk => ?_
        refine d1 6 hk rfl (by kernel_rfl) rfl rfl rfl rfl (r_load hk rfl Tryd.underlying29 rfl h7 (map_get_w _ i _ (r.list.getD (i + 4) 0) (by omega) (four (fun i => r.hi[i]? = some (r.list.getD (i + 4) 0)) rfl rfl rfl rfl i hi4))) fun a hk => ?_
        refine d0 7 hk rfl (by kernel_rfl) rfl rfl rfl rfl (fun _ => e_add hk rfl rfl (w_add _ _) _) fun a hk => ?_
        refine d0 8 hk rfl (by kernel_rfl) rfl rfl rfl rfl (fun _ => e_idxA1 (i + 4) hk rfl rfl Tryd.underlying30 sz29 (by omega) (by omega) _) fun a hk => ?_
        refine da 9 hk rfl (by kernel_rfl) rfl rfl (a_store hk rfl rfl rfl sz29 h2 (by simp [length_mid]; omega) fun a w hk W15 => ?_)
        have hB := W15.below hB hg2
        have h4 := W15.keep (Ne.symm n24) h4
        have h6 := W15.keep (Ne.symm n26) h6
        have h7 := W15.keep (Ne.symm n27) h7
        have h2 := W15.at_
        rw [map_set_w _ (i + 4) _ _ (by omega), mid_step s r i hi4] at h2
        clear W15
        refine okFin (by kernel_rfl) (hK17 _ _ ?_)
        refine wp_region_lit ?_
        refine ls hk rfl rfl rfl (e_add hk rfl rfl (i64 (by omega) (by omega)) _) fun a hk => ?_
        refine ls hk rfl rfl rfl (e_move hk rfl _) fun a hk => ?_
        refine lnil (show ∃ m : Nat, m < _ ∧ _ from ⟨4 - (i + 1), by omega, i + 1, rfl, by omega, hk.sub _ ⟨rfl, rfl, rfl, rfl, rfl, trivial⟩, hB, h2, ⟨_, h4, hz⟩, h6, h7⟩)
      · have hi4 : i = 4 := by have := of_decide_eq_false hb; omega
        subst hi4
        rw [mid4] at h2
        refine wp_exit (hK13 _ _ ?_)
        refine wp_seq_k fun K20 hK20 => ?_
        refine wp_region_lit ?_
        refine ls hk rfl rfl rfl (r_loadB hk rfl h2 Tryd.underlying30 rfl sz30) fun a hk => ?_
        refine la hk rfl (a_storeB hk rfl rfl (words_one _) sz30 h4 (by rw [hz]; rfl) fun a w hk W17 => ?_)
        refine lnil (hK20 _ _ ?_)
        refine wp_ret ?_
        refine retA hk rfl rfl W17.at_ Tryd.underlying30 rfl sz30 ⟨?_, W17.below hB hg4⟩
        rw [← hr]
        rfl
  refine wp_region_ok (fun w' => w'.heap[b2]? = some (.cells (s.list.map W).toArray 30 (0, 0))) [0, 0, 3, 0, 0, 3, 4, 4, 4, 4] mixed ?_
  have hS : w.drew.heap[b2]? = some (.cells (s.list.map W).toArray 30 (0, 0)) := h2
  change w.drew.heap[b2]? = _ at h2
  change w.drew.heap[b4]? = _ at h4
  change w.drew.heap[b5]? = _ at h5
  refine d0 0 hk rfl (by kernel_rfl) rfl rfl rfl rfl (fun _ => e_slAtoN 4 hk rfl rfl Tryd.underlying30 sz29 rfl (by decide) _) fun a hk => ?_
  refine d0 1 hk rfl (by kernel_rfl) rfl rfl rfl rfl (fun _ => e_s2a hk rfl Tryd.underlying154 (by decide) _) fun a hk => ?_
  refine d3 2 hk rfl (by kernel_rfl) rfl rfl rfl rfl hS (fun w hS => r_loadR (xs := s.lo.map W) hk rfl (range_block hS (four _ rfl rfl rfl rfl)) Tryd.underlying154 rfl sz154) fun a hk => ?_
  refine d0 3 hk rfl (by kernel_rfl) rfl rfl rfl rfl (fun _ => e_slAfromN 4 hk rfl rfl Tryd.underlying30 sz29 rfl (by decide) _) fun a hk => ?_
  refine d0 4 hk rfl (by kernel_rfl) rfl rfl rfl rfl (fun _ => e_s2a hk rfl Tryd.underlying154 (by decide) _) fun a hk => ?_
  refine d3 5 hk rfl (by kernel_rfl) rfl rfl rfl rfl hS (fun w hS => r_loadR (xs := s.hi.map W) hk rfl (range_block hS (four _ rfl rfl rfl rfl)) Tryd.underlying154 rfl sz154) fun a hk => ?_
  refine branch2 6 7 rfl rfl (by kernel_rfl) (by kernel_rfl) ?_ ?_
  · refine wa4 (i := 6) hk rfl rfl hS (a_alloc hk rfl zr154 fun a w b6 hk G6 => ⟨ext_at G6.ext hS, ?_⟩)
    have hS := ext_at G6.ext hS
    refine da4 7 hk rfl (by kernel_rfl) rfl rfl hS (a_alloc hk rfl zr154 fun a w b7 hk G7 => ⟨ext_at G7.ext hS, ?_⟩)
    have hS := ext_at G7.ext hS
    have hB := (hB.drew.trans (G6.ext.mono (by simpa using hB.size))).trans (G7.ext.mono (Nat.le_trans (by simpa using hB.size) G6.ext.size))
    have h6 := ext_at G7.ext G6.at_
    have h7 := G7.at_
    have hn67 : b6 ≠ b7 := G7.ne G6.at_
    have l5 := heap_lt h5
    have hb5 := ext_at G7.ext (ext_at G6.ext h5)
    have hb4 := ext_at G7.ext (ext_at G6.ext h4)
    have n26 : b2 ≠ b6 := G6.ne h2
    have n27 : b2 ≠ b7 := G7.ne (ext_at G6.ext h2)
    have n56 : b5 ≠ b6 := G6.ne h5
    have n57 : b5 ≠ b7 := G7.ne (ext_at G6.ext h5)
    have n46 : b4 ≠ b6 := G6.ne h4
    have n47 : b4 ≠ b7 := G7.ne (ext_at G6.ext h4)
    have hg6 : w0.heap.size ≤ b6 := Nat.le_trans hsz (Nat.le_trans (Nat.le_refl _) G6.ge)
    have hg7 : w0.heap.size ≤ b7 := Nat.le_trans hsz (Nat.le_trans G6.ext.size G7.ge)
    clear G6 G7
    refine da4 8 hk rfl (by kernel_rfl) rfl rfl hS (a_storeB hk rfl rfl (words_one s.lo) sz154 h6 rfl fun a w hk W8 => ⟨W8.keep n26 hS, ?_⟩)
    have hS := W8.keep n26 hS
    refine da4 9 hk rfl (by kernel_rfl) rfl rfl hS (a_storeB hk rfl rfl (words_one s.hi) sz154 (W8.keep (Ne.symm hn67) h7) rfl fun a w hk W9 => ⟨W9.keep n27 hS, ?_⟩)
    have hS := W9.keep n27 hS
    refine okFin (by kernel_rfl) (hJ3 _ _ b6 b7 ?_)
    exact ⟨hk.sub _ ⟨rfl, rfl, rfl, rfl, rfl, trivial⟩, W9.below (W8.below hB hg6) hg7, hS, W9.keep n47 (W8.keep n46 hb4), W9.keep n57 (W8.keep n56 hb5), W9.keep hn67 W8.at_, W9.at_, n26, n27, n46, n47, n56, n57, hn67, hg6, hg7⟩
  · refine wa4 (i := 7) hk rfl rfl hS (a_alloc hk rfl zr154 fun a w b7 hk G7 => ⟨ext_at G7.ext hS, ?_⟩)
    have hS := ext_at G7.ext hS
    refine da4 6 hk rfl (by kernel_rfl) rfl rfl hS (a_alloc hk rfl zr154 fun a w b6 hk G6 => ⟨ext_at G6.ext hS, ?_⟩)
    have hS := ext_at G6.ext hS
    have hB := (hB.drew.trans (G7.ext.mono (by simpa using hB.size))).trans (G6.ext.mono (Nat.le_trans (by simpa using hB.size) G7.ext.size))
    have h7 := ext_at G6.ext G7.at_
    have h6 := G6.at_
    have hn67 : b6 ≠ b7 := Ne.symm (G6.ne G7.at_)
    have l5 := heap_lt h5
    have hb5 := ext_at G6.ext (ext_at G7.ext h5)
    have hb4 := ext_at G6.ext (ext_at G7.ext h4)
    have n26 : b2 ≠ b6 := G6.ne (ext_at G7.ext h2)
    have n27 : b2 ≠ b7 := G7.ne h2
    have n56 : b5 ≠ b6 := G6.ne (ext_at G7.ext h5)
    have n57 : b5 ≠ b7 := G7.ne h5
    have n46 : b4 ≠ b6 := G6.ne (ext_at G7.ext h4)
    have n47 : b4 ≠ b7 := G7.ne h4
    have hg6 : w0.heap.size ≤ b6 := Nat.le_trans hsz (Nat.le_trans G7.ext.size G6.ge)
    have hg7 : w0.heap.size ≤ b7 := Nat.le_trans hsz (Nat.le_trans (Nat.le_refl _) G7.ge)
    clear G6 G7
    refine da4 8 hk rfl (by kernel_rfl) rfl rfl hS (a_storeB hk rfl rfl (words_one s.lo) sz154 h6 rfl fun a w hk W8 => ⟨W8.keep n26 hS, ?_⟩)
    have hS := W8.keep n26 hS
    refine da4 9 hk rfl (by kernel_rfl) rfl rfl hS (a_storeB hk rfl rfl (words_one s.hi) sz154 (W8.keep (Ne.symm hn67) h7) rfl fun a w hk W9 => ⟨W9.keep n27 hS, ?_⟩)
    have hS := W9.keep n27 hS
    refine okFin (by kernel_rfl) (hJ3 _ _ b6 b7 ?_)
    exact ⟨hk.sub _ ⟨rfl, rfl, rfl, rfl, rfl, trivial⟩, W9.below (W8.below hB hg6) hg7, hS, W9.keep n47 (W8.keep n46 hb4), W9.keep n57 (W8.keep n56 hb5), W9.keep hn67 W8.at_, W9.at_, n26, n27, n46, n47, n56, n57, hn67, hg6, hg7⟩

end Go.Proofs.YtidfbboalbchiaaDoor

namespace Go.Proofs.YtidfbboalbchiaaDoor

/-- The state after k blocks. -/
def hst : Nat → S8 → List UInt8 → S8
  | 0, s, _ => s
  | k + 1, s, m => hst k (compress s (m.take 64)) (m.drop 64)
theorem hst_append (k : Nat) : ∀ (s : S8) (m x : List UInt8), 64 * k ≤ m.length → hst k s (m ++ x) = hst k s m := by
  induction k with
  | zero => intro s m x _; rfl
  | succ k ih =>
    intro s m x h
    unfold hst
    rw [List.take_append_of_le_length (by omega), List.drop_append_of_le_length (by omega)]
    exact ih _ _ _ (by simp; omega)
theorem hst_succ (k : Nat) : ∀ (s : S8) (m : List UInt8), hst (k + 1) s m = compress (hst k s m) ((m.drop (64 * k)).take 64) := by
  induction k with
  | zero => intro s m; rfl
  | succ k ih =>
    intro s m
    rw [hst, ih, hst, List.drop_drop, show 64 + 64 * k = 64 * (k + 1) by omega]
/-- The state of a message: after its whole blocks. -/
def state (m : List UInt8) : S8 := hst (m.length / 64) s8init m
/-- What is behind the whole blocks. -/
def tail (m : List UInt8) : List UInt8 := m.drop (64 * (m.length / 64))
theorem length_tail (m : List UInt8) : (tail m).length = m.length % 64 := by simp [tail]; omega
/-- A stream's block: its begin is the message's tail. -/
def IsBlk (m blk : List UInt8) : Prop := blk.length = 64 ∧ blk.take (m.length % 64) = tail m
/-- The block while x is laid behind the tail. -/
def lay (blk x : List UInt8) (p : Nat) : List UInt8 := blk.take p ++ x ++ blk.drop (p + x.length)
theorem length_lay (blk x : List UInt8) (p : Nat) (h : p + x.length ≤ blk.length) : (lay blk x p).length = blk.length := by simp [lay]; omega
theorem step_part {m blk x : List UInt8} (hb : IsBlk m blk) (hx : m.length % 64 + x.length < 64) : state (m ++ x) = state m ∧ IsBlk (m ++ x) (lay blk x (m.length % 64)) := by
  obtain ⟨hl, ht⟩ := hb
  have hq : (m ++ x).length / 64 = m.length / 64 := by simp; omega
  have hr : (m ++ x).length % 64 = m.length % 64 + x.length := by simp; omega
  refine ⟨by unfold state; rw [hq, hst_append _ _ _ _ (by omega)], by rw [length_lay _ _ _ (by omega), hl], ?_⟩
  unfold tail lay
  rw [hr, hq, List.drop_append_of_le_length (by omega)]
  have e : (blk.take (m.length % 64) ++ x).length = m.length % 64 + x.length := by simp; omega
  rw [← e, List.take_left, ht]
  rfl
theorem step_full {m blk x : List UInt8} (hb : IsBlk m blk) (hx : m.length % 64 + x.length = 64) : state (m ++ x) = compress (state m) (lay blk x (m.length % 64)) ∧ IsBlk (m ++ x) (lay blk x (m.length % 64)) := by
  obtain ⟨hl, ht⟩ := hb
  have hq : (m ++ x).length / 64 = m.length / 64 + 1 := by simp; omega
  have hr : (m ++ x).length % 64 = 0 := by simp; omega
  have el : lay blk x (m.length % 64) = tail m ++ x := by
    unfold lay
    rw [ht, hx, List.drop_of_length_le (by omega), List.append_nil]
  refine ⟨?_, by rw [length_lay _ _ _ (by omega), hl], ?_⟩
  · unfold state
    rw [hq, hst_succ, hst_append _ _ _ _ (by omega), List.drop_append_of_le_length (by omega), el]
    have e : (m.drop (64 * (m.length / 64)) ++ x).length = 64 := by simp; omega
    rw [List.take_of_length_le (by omega)]
    rfl
  · rw [hr]
    unfold tail
    rw [hq, List.drop_of_length_le (by simp; omega)]
    rfl

/-- The eight bytes of a length. -/
def len8 (n : Nat) : List UInt8 := (List.range 8).map fun i => UInt8.ofNat (n / 2 ^ (56 - 8 * i) % 256)
/-- How many zero bytes. -/
def zeros (n : Nat) : Nat := (119 - n % 64) % 64
def padding (n : Nat) : List UInt8 := 128 :: List.replicate (zeros n) 0 ++ len8 (8 * n)
/-- A state's bytes. -/
def outB (s : S8) (i : Nat) : UInt8 := ((s.list.getD (i / 4) 0) >>> UInt32.ofNat (24 - 8 * (i % 4))).toUInt8
def out32 (s : S8) : List UInt8 := (List.range 32).map (outB s)
theorem length_out32 (s : S8) : (out32 s).length = 32 := by simp [out32]
/-- The hash of a message. -/
def sha (m : List UInt8) : List UInt8 := out32 (state (m ++ padding m.length))
theorem length_sha (m : List UInt8) : (sha m).length = 32 := length_out32 _
/-- The authentication code. -/
def key64 (key : List UInt8) (x : UInt8) : List UInt8 := ((if key.length > 64 then sha key else key) ++ List.replicate (64 - (if key.length > 64 then sha key else key).length) 0).map (· ^^^ x)
def mac (key text : List UInt8) : List UInt8 := sha (key64 key 92 ++ sha (key64 key 54 ++ text))
end Go.Proofs.YtidfbboalbchiaaDoor

namespace Go.Proofs.YtidfbboalbchiaaDoor
open Go Go.RowKit

def fields34 : Array Field := #[{ name := "state", type := 30, offset := 0, embedded := false, tag := "", pkgPath := "diorama/hash", byteOffset := 0 }, { name := "block", type := 31, offset := 8, embedded := false, tag := "", pkgPath := "diorama/hash", byteOffset := 32 }, { name := "n", type := 32, offset := 72, embedded := false, tag := "", pkgPath := "diorama/hash", byteOffset := 96 }]
theorem pl34 (w : World) : (fields34.mapM fun (f : Field) => (do pure (f.offset, ← sizeOf f.type) : Sem (Nat × Nat))).run Tryd.prog w = .ok #[(0, 8), (8, 64), (72, 1)] w := by kernel_rfl
/-- A stream's cells. -/
def sc (s : S8) (blk : List UInt8) (n : Nat) : List Value := s.list.map W ++ blk.map B ++ [.int .u64 (n : Int)]
/-- The value of a stream whose message is m. -/
def IsS (m : List UInt8) (v : Value) : Prop := ∃ blk, IsBlk m blk ∧ v = .agg (sc (state m) blk m.length).toArray
theorem length_list (s : S8) : s.list.length = 8 := rfl
theorem length_sc (s : S8) (blk : List UInt8) (n : Nat) (h : blk.length = 64) : (sc s blk n).length = 73 := by simp [sc, h, length_list]
theorem sc_one (s : S8) (blk : List UInt8) (n : Nat) : ∀ u ∈ (sc s blk n).toArray, u.oneCell' = true := by
  intro u hu
  simp [sc] at hu
  rcases hu with ⟨x, _, rfl⟩ | ⟨x, _, rfl⟩ | rfl <;> rfl
theorem sc_n (s : S8) (blk : List UInt8) (n : Nat) (h : blk.length = 64) : (sc s blk n).toArray[0 + 72]? = some (.int .u64 (n : Int)) := by
  simp [sc, length_list, h]
theorem sc_setn (s : S8) (blk : List UInt8) (n n' : Nat) (h : blk.length = 64) : (sc s blk n).toArray.setIfInBounds (0 + 72) (.int .u64 (n' : Int)) = (sc s blk n').toArray := by
  simp [sc, length_list, h]
theorem sc_lay (s : S8) (blk x : List UInt8) (n p k : Nat) (h : blk.length = 64) (hk : k = x.length) (hp : p + k ≤ 64) :
    ((sc s blk n).toArray.toList.take (0 + 8 + p) ++ x.map B ++ (sc s blk n).toArray.toList.drop (0 + 8 + p + k)).toArray = (sc s (lay blk x p) n).toArray := by
  subst hk
  have e1 : (s.list.map W).length = 8 := rfl
  have e3 : blk.length - p - (blk.length - p - x.length) = x.length := by omega
  show ((sc s blk n).take (0 + 8 + p) ++ x.map B ++ (sc s blk n).drop (0 + 8 + p + x.length)).toArray = _
  simp only [sc, lay, List.append_assoc]
  congr 1
  rw [List.take_append, List.drop_append, List.take_of_length_le (by omega), List.drop_of_length_le (by omega), e1]
  rw [show 0 + 8 + p - 8 = p by omega, show 0 + 8 + p + x.length - 8 = p + x.length by omega]
  rw [List.take_append_of_le_length (by simp; omega), List.drop_append_of_le_length (by simp; omega)]
  simp [List.map_take, List.map_drop]
theorem sc_state (s s' : S8) (blk : List UInt8) (n : Nat) : ((sc s blk n).toArray.toList.take (0 + 0) ++ s'.list.map W ++ (sc s blk n).toArray.toList.drop (0 + 0 + (s'.list.map W).length)).toArray = (sc s' blk n).toArray := by
  have e1 : (s.list.map W).length = 8 := rfl
  have e2 : (s'.list.map W).length = 8 := rfl
  show ((sc s blk n).take (0 + 0) ++ s'.list.map W ++ (sc s blk n).drop (0 + 0 + (s'.list.map W).length)).toArray = _
  simp only [sc, e2, List.append_assoc]
  rw [show (0 + 0 + 8) = (s.list.map W).length from rfl, List.drop_left]
  rfl
theorem sc_range (s : S8) (blk : List UInt8) (n : Nat) {w : World} {b : Nat} {t : TypeId} {fr : Nat × Nat} (h : w.heap[b]? = some (.cells (sc s blk n).toArray t fr)) : w.rangeAt b (0 + 0) (s.list.map W) :=
  range_block h fun i hi => by
    have e1 : (s.list.map W).length = 8 := rfl
    simp only [sc, List.getElem?_toArray, List.append_assoc]
    rw [List.getElem?_append_left (by omega)]
    congr 1; omega
theorem sc_blk (s : S8) (blk : List UInt8) (n : Nat) {w : World} {b : Nat} {t : TypeId} {fr : Nat × Nat} (h : w.heap[b]? = some (.cells (sc s blk n).toArray t fr)) (hl : blk.length = 64) : Rd w (some ⟨b, 0 + 8, none⟩) 64 64 1 (blk.map B) :=
  Rd.of_block h (by simp [hl]) (Nat.le_refl _) fun i hi => by
    have e1 : (s.list.map W).length = 8 := rfl
    have hi' : i < 64 := by simpa [hl] using hi
    simp only [sc, List.getElem?_toArray, List.append_assoc]
    rw [List.getElem?_append_right (by omega), e1, List.getElem?_append_left (by simp; omega)]
    congr 1; omega
theorem u_rem (n : Nat) : ((n : Int)).tmod 64 = ((n % 64 : Nat) : Int) := by rw [Int.tmod_eq_emod_of_nonneg (by omega)]; omega

theorem c26 (w0 : World) : Calls Tryd.prog 26 #[] w0 fun e w' => ∃ v, e = .returned v ∧ IsS [] v ∧ Ext w0 w' := by
  refine start (args := []) 3 Tryd.func26 rfl rfl rfl fun a hk => ?_
  refine wp_seq_k fun K1 hK1 => ?_
  refine wp_region_lit ?_
  refine la hk rfl (a_alloc hk rfl zr34 fun a w b0 hk G0 => ?_)
  refine lnil (hK1 _ _ ?_)
  refine wp_seq_k fun K2 hK2 => ?_
  refine wp_region_lit ?_
  refine ls hk rfl rfl rfl (e_buildA (cells := (s8init.list.map W).toArray) hk rfl zr30 Tryd.underlying30 sz29 (by kernel_rfl) _) fun a hk => ?_
  refine ls hk rfl rfl rfl (e_buildS (cells := (sc s8init (List.replicate 64 0) 0).toArray) hk rfl zr34 Tryd.underlying34 pl34 (by kernel_rfl) _) fun a hk => ?_
  refine la hk rfl (a_storeB hk rfl rfl (sc_one _ _ _) (by rw [sz34]; rfl) G0.at_ rfl fun a w hk W1 => ?_)
  refine lnil (hK2 _ _ ?_)
  refine wp_ret ?_
  exact retA hk rfl rfl W1.at_ Tryd.underlying34 rfl (by rw [sz34]; rfl) ⟨_, rfl, ⟨List.replicate 64 0, ⟨rfl, rfl⟩, rfl⟩, W1.below G0.ext G0.ge⟩

set_option maxRecDepth 4000 in
set_option maxHeartbeats 1000000 in
theorem c27 (m t : List UInt8) (v : Value) (w0 : World) (hS : IsS m v) (hG : GH w0) (hlen0 : m.length + t.length ≤ 4611686018427387904) :
    Calls Tryd.prog 27 #[v, Str t] w0 fun e w' => ∃ v', e = .returned v' ∧ IsS (m ++ t) v' ∧ Ext w0 w' := by
  obtain ⟨blk, hblk, rfl⟩ := hS
  refine start 38 Tryd.func27 rfl rfl rfl fun a hk => ?_
  refine wp_seq_k fun K1 hK1 => ?_
  refine wp_region_lit ?_
  refine la hk rfl (a_box hk rfl rfl fun a w b2 hk G2 => ?_)
  refine la hk rfl (a_alloc hk rfl zr34 fun a w b4 hk G4 => ?_)
  have hB : Below w0.heap.size w0 w := ext_trans G2.ext G4.ext
  have h2 : w.heap[b2]? = some (.cells (sc (state m) blk m.length).toArray 34 (0, 0)) := ext_at G4.ext G2.at_
  have h4 := G4.at_
  have hne : b2 ≠ b4 := G4.ne G2.at_
  have hg2 := G2.ge
  have hg4 : w0.heap.size ≤ b4 := Nat.le_trans G2.ext.size G4.ge
  clear G2 G4
  refine lnil (hK1 _ _ ?_)
  refine wp_seq_k fun K2 hK2 => ?_
  refine wp_block ?_
  refine loopN (fun n a w => ∃ (m' r blk : List UInt8), n = r.length ∧ m' ++ r = m ++ t ∧ IsBlk m' blk ∧ Kn a 38 [(1, Str r), (2, .pointer (some ⟨b2, 0, none⟩)), (4, .pointer (some ⟨b4, 0, none⟩))] ∧ Below w0.heap.size w0 w ∧ w.heap[b2]? = some (.cells (sc (state m') blk m'.length).toArray 34 (0, 0)) ∧ (∃ z, w.heap[b4]? = some (.cells z 34 (0, 0)) ∧ z.size = 73)) (t.length) ?_ fun n a w hI => ?_
  · exact ⟨m, t, blk, rfl, rfl, hblk, hk.sub _ ⟨rfl, rfl, rfl, trivial⟩, hB, h2, ⟨_, h4, rfl⟩⟩
  clear hB h2 h4 hblk
  obtain ⟨m', r, blk, rfl, hmr, hblk, hk, hB, h2, ⟨z, h4, hz⟩⟩ := hI
  have hlen : m'.length + r.length = m.length + t.length := by have := congrArg List.length hmr; simpa using this
  have hl := hblk.1
  refine wp_seq_k fun K3 hK3 => ?_
  refine wp_seq_k fun K4 hK4 => ?_
  refine wp_region_lit ?_
  refine ls hk rfl rfl rfl (e_move hk rfl _) fun a hk => ?_
  refine ls hk rfl rfl rfl (e_sneq hk rfl rfl rfl _) fun a hk => ?_
  refine lnil (hK4 _ _ ?_)
  refine cdB hk rfl (fun hb => ?_) (fun hb => ?_)
  · have hr : r ≠ [] := by simpa using hb
    obtain ⟨k, hkd⟩ : ∃ k, k = min r.length (64 - m'.length % 64) := ⟨_, rfl⟩
    have hk1 : k ≤ r.length := by omega
    have hk2 : m'.length % 64 + k ≤ 64 := by omega
    have hk3 : 0 < k := by have := List.length_pos_iff.2 hr; omega
    have hxl : (r.take k).length = k := by simp; omega
    refine wp_skip (hK3 _ _ ?_)
    refine wp_block ?_
    refine wp_seq_k fun K5 hK5 => ?_
    refine wp_region_lit ?_
    refine ls hk rfl rfl rfl (e_field (off := 72) hk rfl Tryd.underlying34 rfl rfl nz32 _) fun a hk => ?_
    refine ls hk rfl rfl rfl (r_load hk rfl Tryd.underlying32 rfl h2 (sc_n _ _ _ hl)) fun a hk => ?_
    refine ls hk rfl rfl rfl (e_rem hk rfl rfl (by decide) (u_rem _) _) fun a hk => ?_
    refine ls hk rfl rfl rfl (e_conv hk rfl Tryd.underlying32 Tryd.underlying3 (i64 (by omega) (by omega)) _) fun a hk => ?_
    refine ls hk rfl rfl rfl (e_assign hk rfl _) fun a hk => ?_
    refine lnil (hK5 _ _ ?_)
    refine wp_seq_k fun K6 hK6 => ?_
    refine wp_region_lit ?_
    refine ls hk rfl rfl rfl (e_field (off := 8) hk rfl Tryd.underlying34 rfl rfl nz31 _) fun a hk => ?_
    refine ls hk rfl rfl rfl (e_move hk rfl _) fun a hk => ?_
    refine ls hk rfl rfl rfl (e_slAfromN (m'.length % 64) hk rfl rfl Tryd.underlying31 sz5 rfl (by omega) _) fun a hk => ?_
    refine ls hk rfl rfl rfl (e_move hk rfl _) fun a hk => ?_
    refine la hk rfl (a_copyStr hk rfl rfl rfl Tryd.underlying22 sz5 h2 (by simp [length_sc _ _ _ hl]; omega) fun a w hk W3 => ?_)
    rw [← hkd] at hk W3
    have hB := W3.below hB hg2
    have h4 := W3.keep (Ne.symm hne) h4
    have h2 := W3.at_
    rw [sc_lay _ _ _ _ _ _ hl hxl.symm hk2] at h2
    have hl' : (lay blk (r.take k) (m'.length % 64)).length = 64 := by rw [length_lay _ _ _ (by omega), hl]
    clear W3
    refine ls hk rfl rfl rfl (e_assign hk rfl _) fun a hk => ?_
    refine lnil (hK6 _ _ ?_)
    refine wp_seq_k fun K7 hK7 => ?_
    refine wp_region_lit ?_
    refine ls hk rfl rfl rfl (e_move hk rfl _) fun a hk => ?_
    refine ls hk rfl rfl rfl (e_move hk rfl _) fun a hk => ?_
    refine ls hk rfl rfl rfl (e_slStrFromN k hk rfl rfl Tryd.underlying9 rfl hk1 _) fun a hk => ?_
    refine ls hk rfl rfl rfl (e_assign hk rfl _) fun a hk => ?_
    refine lnil (hK7 _ _ ?_)
    refine wp_seq_k fun K8 hK8 => ?_
    refine wp_region_lit ?_
    refine ls hk rfl rfl rfl (e_field (off := 72) hk rfl Tryd.underlying34 rfl rfl nz32 _) fun a hk => ?_
    refine ls hk rfl rfl rfl (r_load hk rfl Tryd.underlying32 rfl h2 (sc_n _ _ _ hl')) fun a hk => ?_
    refine ls hk rfl rfl rfl (e_move hk rfl _) fun a hk => ?_
    refine ls hk rfl rfl rfl (e_conv hk rfl Tryd.underlying3 Tryd.underlying32 (u64 (by omega) (by omega)) _) fun a hk => ?_
    refine ls hk rfl rfl rfl (e_add (q := ((m'.length + k : Nat) : Int)) hk rfl rfl (by rw [u64 (by omega) (by omega)]; omega) _) fun a hk => ?_
    refine ls hk rfl rfl rfl (e_field (off := 72) hk rfl Tryd.underlying34 rfl rfl nz32 _) fun a hk => ?_
    refine la hk rfl (a_store hk rfl rfl rfl sz32 h2 (by simp [length_sc _ _ _ hl']) fun a w hk W5 => ?_)
    have hB := W5.below hB hg2
    have h4 := W5.keep (Ne.symm hne) h4
    have h2 := W5.at_
    rw [sc_setn _ _ _ _ hl'] at h2
    clear W5
    refine lnil (hK8 _ _ ?_)
    refine wp_seq_k fun K9 hK9 => ?_
    refine wp_region_lit ?_
    refine ls hk rfl rfl rfl (e_move hk rfl _) fun a hk => ?_
    refine ls hk rfl rfl rfl (e_move hk rfl _) fun a hk => ?_
    refine ls hk rfl rfl rfl (e_add hk rfl rfl (i64 (by omega) (by omega)) _) fun a hk => ?_
    refine ls hk rfl rfl rfl (e_eql hk rfl rfl rfl _) fun a hk => ?_
    refine lnil (hK9 _ _ ?_)
    refine cdB hk rfl (fun hb => ?_) (fun hb => ?_)
    · have h64 : m'.length % 64 + k = 64 := by have := of_decide_eq_true hb; omega
      have hst := step_full hblk (x := r.take k) (by rw [hxl]; exact h64)
      refine wp_region_ok (fun _ => True) [0, 1, 0, 0, 2, 0, 2] mixed ?_
      have hB := hB.drew
      refine d0 0 hk rfl (by kernel_rfl) rfl rfl rfl rfl (fun _ => e_field (off := 0) hk rfl Tryd.underlying34 rfl rfl nz30 _) fun a hk => ?_
      refine d1 1 hk rfl (by kernel_rfl) rfl rfl rfl rfl (r_loadR (xs := (state m').list.map W) hk rfl (sc_range _ _ _ h2) Tryd.underlying30 rfl sz30) fun a hk => ?_
      refine d0 2 hk rfl (by kernel_rfl) rfl rfl rfl rfl (fun _ => e_field (off := 8) hk rfl Tryd.underlying34 rfl rfl nz31 _) fun a hk => ?_
      refine d0 3 hk rfl (by kernel_rfl) rfl rfl rfl rfl (fun _ => e_slA hk rfl Tryd.underlying31 sz5 _) fun a hk => ?_
      refine da 4 hk rfl (by kernel_rfl) rfl rfl (a_call hk rfl rfl (c_fn hk rfl ok70) (c70 (state m') _ b2 (0 + 8) 64 _ hl' (sc_blk _ _ _ h2 hl') (hG.ext hB)) ?_)
      rintro e w ⟨rfl, hE⟩
      refine ⟨_, rfl, fun a hk => ?_⟩
      have h2 := ext_at hE h2
      have h4 := ext_at hE h4
      have hB := ext_trans hB hE
      refine d0 5 hk rfl (by kernel_rfl) rfl rfl rfl rfl (fun _ => e_field (off := 0) hk rfl Tryd.underlying34 rfl rfl nz30 _) fun a hk => ?_
      refine da 6 hk rfl (by kernel_rfl) rfl rfl (a_storeR (xs := (compress (state m') (lay blk (r.take k) (m'.length % 64))).list.map W) hk rfl rfl (fun u hu => words_one _ u (by simpa using hu)) sz30 h2 (by simp [length_sc _ _ _ hl', length_list]) fun a w hk W7 => ?_)
      have hB := W7.below hB hg2
      have h4 := W7.keep (Ne.symm hne) h4
      have h2 := W7.at_
      rw [sc_state, ← hst.1, show m'.length + k = (m' ++ r.take k).length by rw [List.length_append, hxl]] at h2
      clear W7 hE
      refine okFin (by kernel_rfl) (show ∃ m : Nat, m < _ ∧ _ from ⟨(r.drop k).length, by have := List.length_pos_iff.2 hr; simp; omega, m' ++ r.take k, r.drop k, _, rfl, by rw [List.append_assoc, List.take_append_drop]; exact hmr, hst.2, hk.sub _ ⟨rfl, rfl, rfl, trivial⟩, hB, h2, ⟨_, h4, hz⟩⟩)
    · have h64 : m'.length % 64 + k < 64 := by have := of_decide_eq_false hb; omega
      have hst := step_part hblk (x := r.take k) (by rw [hxl]; exact h64)
      rw [← hst.1, show m'.length + k = (m' ++ r.take k).length by rw [List.length_append, hxl]] at h2
      refine wp_skip (show ∃ m : Nat, m < _ ∧ _ from ⟨(r.drop k).length, by have := List.length_pos_iff.2 hr; simp; omega, m' ++ r.take k, r.drop k, _, rfl, by rw [List.append_assoc, List.take_append_drop]; exact hmr, hst.2, hk.sub _ ⟨rfl, rfl, rfl, trivial⟩, hB, h2, ⟨_, h4, hz⟩⟩)
  · have hr : r = [] := by simpa using hb
    subst hr
    rw [List.append_nil] at hmr
    subst hmr
    refine wp_exit (hK2 _ _ ?_)
    refine wp_seq_k fun K10 hK10 => ?_
    refine wp_region_lit ?_
    refine ls hk rfl rfl rfl (r_loadB hk rfl h2 Tryd.underlying34 rfl (by rw [sz34]; simp [length_sc _ _ _ hl])) fun a hk => ?_
    refine la hk rfl (a_storeB hk rfl rfl (sc_one _ _ _) (by rw [sz34]; simp [length_sc _ _ _ hl]) h4 (by rw [hz]; simp [length_sc _ _ _ hl]) fun a w hk W8 => ?_)
    refine lnil (hK10 _ _ ?_)
    refine wp_ret ?_
    exact retA hk rfl rfl W8.at_ Tryd.underlying34 rfl (by rw [sz34]; simp [length_sc _ _ _ hl]) ⟨_, rfl, ⟨blk, hblk, rfl⟩, W8.below hB hg4⟩

end Go.Proofs.YtidfbboalbchiaaDoor

namespace Go.Proofs.YtidfbboalbchiaaDoor
open Go Go.RowKit

theorem bytes_set (A R : List UInt8) (x y : UInt8) (n : Nat) (h : n = A.length) : ((A ++ [x] ++ R).map B).toArray.setIfInBounds n (B y) = ((A ++ [y] ++ R).map B).toArray := by
  subst h
  simp
theorem bytes_one (l : List UInt8) : ∀ u ∈ l.map B, u.oneCell' = true := by
  intro u hu
  obtain ⟨x, _, rfl⟩ := List.mem_map.1 hu
  rfl
theorem bytes_oneA (l : List UInt8) : ∀ u ∈ (l.map B).toArray, u.oneCell' = true := fun u hu => bytes_one l u (by simpa using hu)
theorem i_rem (n k : Nat) : ((n : Int)).tmod (k : Int) = ((n % k : Nat) : Int) := by rw [Int.tmod_eq_emod_of_nonneg (by omega)]; simp
theorem i_quo (n k : Nat) : ((n : Int)).tdiv (k : Int) = ((n / k : Nat) : Int) := by rw [Int.tdiv_eq_ediv_of_nonneg (by omega)]; simp
theorem u_shr (n s : Nat) (h : s < 64) : ((n : Int)).fdiv (2 ^ min s IntKind.u64.bits) = ((n / 2 ^ s : Nat) : Int) := by
  rw [bits64, min_lt h, Int.fdiv_eq_ediv_of_nonneg _ (Int.pow_nonneg (by decide))]
  norm_cast
theorem u_b (n : Nat) : IntKind.u8.wrap (n : Int) = ((UInt8.ofNat (n % 256)).toNat : Int) := by
  rw [wrap8u]
  have : (UInt8.ofNat (n % 256)).toNat = n % 256 % 2 ^ 8 := rfl
  omega
theorem len8_take (n i : Nat) (h : i < 8) : (len8 n).take (i + 1) = (len8 n).take i ++ [UInt8.ofNat (n / 2 ^ (56 - 8 * i) % 256)] := by
  rw [List.take_succ_eq_append_getElem (by simp [len8]; exact h)]
  simp [len8]
theorem length_len8 (n : Nat) : (len8 n).length = 8 := by simp [len8]
theorem sc_word (s : S8) (blk : List UInt8) (n i : Nat) (h : i < 8) : (sc s blk n).toArray[0 + 0 + i]? = some (W (s.list.getD i 0)) := by
  have h8 : i < s.list.length := by rw [length_list]; exact h
  simp [sc, List.getElem?_append, h8]
theorem out32_take (s : S8) (i : Nat) (h : i < 32) : (out32 s).take (i + 1) = (out32 s).take i ++ [outB s i] := by
  rw [List.take_succ_eq_append_getElem (by rw [length_out32]; exact h)]
  simp [out32]

set_option maxRecDepth 4000 in
set_option maxHeartbeats 1000000 in
theorem c29 (m : List UInt8) (v : Value) (w0 : World) (hS : IsS m v) (hG : GH w0) (hlen0 : m.length ≤ 1152921504606846976) :
    Calls Tryd.prog 29 #[v] w0 fun e w' => e = .returned (.agg ((sha m).map B).toArray) ∧ Ext w0 w' := by
  obtain ⟨blk, hblk, rfl⟩ := hS
  have hl := hblk.1
  refine start 58 Tryd.func29 rfl rfl rfl fun a hk => ?_
  refine wp_seq_k fun K1 hK1 => ?_
  refine wp_region_lit ?_
  refine la hk rfl (a_box hk rfl rfl fun a w b1 hk G1 => ?_)
  refine la hk rfl (a_alloc hk rfl zr24 fun a w b2 hk G2 => ?_)
  have hB : Below w0.heap.size w0 w := ext_trans G1.ext G2.ext
  have h1 : w.heap[b1]? = some (.cells (sc (state m) blk m.length).toArray 34 (0, 0)) := ext_at G2.ext G1.at_
  have h2 := G2.at_
  have hne : b1 ≠ b2 := G2.ne G1.at_
  have hg1 := G1.ge
  have hg2 : w0.heap.size ≤ b2 := Nat.le_trans G1.ext.size G2.ge
  obtain ⟨C, hC⟩ : ∃ C, C = w.heap.size := ⟨_, rfl⟩
  have hC1 : b1 < C := by rw [hC]; exact heap_lt h1
  have hC2 : b2 < C := by rw [hC]; exact heap_lt h2
  have hC0 : w0.heap.size ≤ C := by rw [hC]; exact hB.size
  have hCC : C ≤ w.heap.size := Nat.le_of_eq hC
  clear hC G1 G2
  refine lnil (hK1 _ _ ?_)
  refine wp_seq_k fun K2 hK2 => ?_
  refine wp_region_lit ?_
  refine ls hk rfl rfl rfl (e_field (off := 72) hk rfl Tryd.underlying34 rfl rfl nz32 _) fun a hk => ?_
  refine ls hk rfl rfl rfl (r_load hk rfl Tryd.underlying32 rfl h1 (sc_n _ _ _ hl)) fun a hk => ?_
  refine ls hk rfl rfl rfl (e_mul (q := ((8 * m.length : Nat) : Int)) hk rfl rfl (by rw [u64 (by omega) (by omega)]; omega) _) fun a hk => ?_
  refine ls hk rfl rfl rfl (e_assign hk rfl _) fun a hk => ?_
  refine lnil (hK2 _ _ ?_)
  refine wp_seq_k fun K3 hK3 => ?_
  refine wp_region_lit ?_
  refine la hk rfl (a_lit (cells := #[B 128]) (zv := .int .u8 0) (sz := 1) (by_ := 1) hk rfl rfl Tryd.underlying22 el5 (by decide) (by decide) (lit1 _ _ rfl) rfl fun a w bl hk GL => ?_)
  have hown := own_mono (lit_own (n := 1) (sz := 1) GL rfl (by decide)) hCC
  have hB := ext_trans hB GL.ext
  have h1 := ext_at GL.ext h1
  have h2 := ext_at GL.ext h2
  have hCC := Nat.le_trans hCC GL.ext.size
  clear GL
  refine ls hk rfl rfl rfl (e_assign hk rfl _) fun a hk => ?_
  refine lnil (hK3 _ _ ?_)
  refine wp_seq_k fun K4 hK4 => ?_
  refine wp_block ?_
  refine loopN (fun n a w => ∃ (z : Nat) (ad : Option Addr) (c : Nat), n = zeros m.length - z ∧ z ≤ zeros m.length ∧ Kn a 58 [(1, .pointer (some ⟨b1, 0, none⟩)), (2, .pointer (some ⟨b2, 0, none⟩)), (3, .int .u64 ((8 * m.length : Nat) : Int)), (4, .slice ad (1 + z) c)] ∧ Below w0.heap.size w0 w ∧ C ≤ w.heap.size ∧ w.heap[b1]? = some (.cells (sc (state m) blk m.length).toArray 34 (0, 0)) ∧ w.heap[b2]? = some (.cells (Value.agg (List.replicate 32 (Value.int .u8 0)).toArray).cells 24 (0, 0)) ∧ w.ownsRow C 5 1 (.slice ad (1 + z) c) (1 + z) ((128 :: List.replicate z 0).map B)) (zeros m.length) ?_ fun n a w hI => ?_
  · exact ⟨0, _, _, rfl, Nat.zero_le _, hk.sub _ ⟨rfl, rfl, rfl, rfl, trivial⟩, hB, hCC, h1, h2, hown⟩
  clear hB h1 h2 hown hCC
  obtain ⟨z, ad, c, rfl, hz, hk, hB, hCC, h1, h2, hown⟩ := hI
  have hz64 : zeros m.length < 64 := Nat.mod_lt _ (by decide)
  refine wp_seq_k fun K5 hK5 => ?_
  refine wp_seq_k fun K6 hK6 => ?_
  refine wp_region_lit ?_
  refine ls hk rfl rfl rfl (e_field (off := 72) hk rfl Tryd.underlying34 rfl rfl nz32 _) fun a hk => ?_
  refine ls hk rfl rfl rfl (r_load hk rfl Tryd.underlying32 rfl h1 (sc_n _ _ _ hl)) fun a hk => ?_
  refine ls hk rfl rfl rfl (e_conv hk rfl Tryd.underlying32 Tryd.underlying3 (i64 (by omega) (by omega)) _) fun a hk => ?_
  refine ls hk rfl rfl rfl (e_move hk rfl _) fun a hk => ?_
  refine ls hk rfl rfl rfl (e_lenS hk rfl Tryd.underlying22 _) fun a hk => ?_
  refine ls hk rfl rfl rfl (e_add (q := ((m.length + (1 + z) : Nat) : Int)) hk rfl rfl (by rw [i64 (by omega) (by omega)]; omega) _) fun a hk => ?_
  refine ls hk rfl rfl rfl (e_rem (q := (((m.length + (1 + z)) % 64 : Nat) : Int)) hk rfl rfl (by decide) (i_rem _ 64) _) fun a hk => ?_
  refine ls hk rfl rfl rfl (e_neq hk rfl rfl rfl _) fun a hk => ?_
  refine lnil (hK6 _ _ ?_)
  refine cdB hk rfl (fun hb => ?_) (fun hb => ?_)
  · have hzl : z < zeros m.length := by
      have h := of_decide_eq_false (by simpa using hb : decide ((((m.length + (1 + z)) % 64 : Nat) : Int) = 56) = false)
      unfold zeros at hz ⊢
      omega
    refine wp_skip (hK5 _ _ ?_)
    refine wp_block ?_
    refine wp_region_lit ?_
    refine ls hk rfl rfl rfl (e_move hk rfl _) fun a hk => ?_
    refine la hk rfl (a_lit (cells := #[B 0]) (zv := .int .u8 0) (sz := 1) (by_ := 1) hk rfl rfl Tryd.underlying22 el5 (by decide) (by decide) (lit1 _ _ rfl) rfl fun a w bl hk GL => ?_)
    have hB := ext_trans hB GL.ext
    have h1 := ext_at GL.ext h1
    have h2 := ext_at GL.ext h2
    have hown := own_ext hown GL.ext
    have hRd : Rd w (some ⟨bl, 0, none⟩) 1 1 1 ([(0 : UInt8)].map B) := Rd.of_block GL.at_ rfl (Nat.le_refl _) (fun i hi => by simp at hi; subst hi; rfl)
    have hCC := Nat.le_trans hCC GL.ext.size
    clear GL
    refine la hk rfl (a_app hk rfl rfl hown rfl hRd (bytes_one _) Tryd.underlying22 el5 rfl (by decide) (by omega) (by omega) hCC fun a w v hk hown' hKp => ?_)
    have hB := kept_below hKp hB hown hC0 (Nat.le_trans hC0 hCC)
    have h1 := kept_lt hKp hown hC1 h1
    have h2 := kept_lt hKp hown hC2 h2
    have hCC := Nat.le_trans hCC hKp.size
    clear hown hKp hRd
    obtain ⟨ad, c, rfl, _, _⟩ := Rd.of_own hown'
    have hown : w.ownsRow C 5 1 (.slice ad (1 + (z + 1)) c) (1 + (z + 1)) ((128 :: List.replicate (z + 1) 0).map B) := by
      have e : (128 :: List.replicate z (0 : UInt8)).map B ++ [(0 : UInt8)].map B = (128 :: List.replicate (z + 1) 0).map B := by
        rw [← List.map_append, List.cons_append, List.replicate_succ']
      rw [← e]; exact hown'
    clear hown'
    refine ls hk rfl rfl rfl (e_assign hk rfl _) fun a hk => ?_
    refine lnil (show ∃ m : Nat, m < _ ∧ _ from ⟨zeros m.length - (z + 1), by omega, z + 1, ad, c, rfl, by omega, hk.sub _ ⟨rfl, rfl, rfl, rfl, trivial⟩, hB, hCC, h1, h2, hown⟩)
  · have hzl : z = zeros m.length := by
      have h := of_decide_eq_true (by simpa using hb : decide ((((m.length + (1 + z)) % 64 : Nat) : Int) = 56) = true)
      unfold zeros at hz ⊢
      omega
    subst hzl
    refine wp_exit (hK4 _ _ ?_)
    refine wp_seq_k fun K7 hK7 => ?_
    refine wp_seq_k fun K8 hK8 => ?_
    refine wp_region_lit ?_
    refine ls hk rfl rfl rfl (e_move hk rfl _) fun a hk => ?_
    refine lnil (hK8 _ _ ?_)
    refine wp_block ?_
    refine loopN (fun n a w => ∃ (i : Nat) (ad : Option Addr) (c : Nat), n = 8 - i ∧ i ≤ 8 ∧ Kn a 58 [(1, .pointer (some ⟨b1, 0, none⟩)), (2, .pointer (some ⟨b2, 0, none⟩)), (3, .int .u64 ((8 * m.length : Nat) : Int)), (4, .slice ad (1 + zeros m.length + i) c), (23, I i)] ∧ Below w0.heap.size w0 w ∧ C ≤ w.heap.size ∧ w.heap[b1]? = some (.cells (sc (state m) blk m.length).toArray 34 (0, 0)) ∧ w.heap[b2]? = some (.cells (Value.agg (List.replicate 32 (Value.int .u8 0)).toArray).cells 24 (0, 0)) ∧ w.ownsRow C 5 1 (.slice ad (1 + zeros m.length + i) c) (1 + zeros m.length + i) ((128 :: List.replicate (zeros m.length) 0 ++ (len8 (8 * m.length)).take i).map B)) (8) ?_ fun n a w hI => ?_
    · exact ⟨0, _, _, rfl, by omega, hk.sub _ ⟨rfl, rfl, rfl, rfl, rfl, trivial⟩, hB, hCC, h1, h2, by simpa using hown⟩
    clear hB h1 h2 hown hCC
    obtain ⟨i, ad, c, rfl, hi, hk, hB, hCC, h1, h2, hown⟩ := hI
    refine wp_seq_k fun K9 hK9 => ?_
    refine wp_region_lit ?_
    refine ls hk rfl rfl rfl (e_lss hk rfl rfl rfl _) fun a hk => ?_
    refine lnil (hK9 _ _ ?_)
    refine wp_seq_k fun K10 hK10 => ?_
    refine cdB hk rfl (fun hb => ?_) (fun hb => ?_)
    · have hi8 : i < 8 := by have := of_decide_eq_true hb; omega
      refine wp_skip (hK10 _ _ ?_)
      refine wp_seq_k fun K11 hK11 => ?_
      refine wp_block ?_
      refine wp_seq_k fun K12 hK12 => ?_
      refine wp_region_lit ?_
      refine ls hk rfl rfl rfl (e_move hk rfl _) fun a hk => ?_
      refine ls hk rfl rfl rfl (e_assign hk rfl _) fun a hk => ?_
      refine lnil (hK12 _ _ ?_)
      refine wp_region_lit ?_
      refine ls hk rfl rfl rfl (e_move hk rfl _) fun a hk => ?_
      refine ls hk rfl rfl rfl (e_move hk rfl _) fun a hk => ?_
      refine ls hk rfl rfl rfl (e_move hk rfl _) fun a hk => ?_
      refine ls hk rfl rfl rfl (e_mul hk rfl rfl (i64 (by omega) (by omega)) _) fun a hk => ?_
      refine ls hk rfl rfl rfl (e_sub (q := ((56 - 8 * i : Nat) : Int)) hk rfl rfl (by rw [i64 (by omega) (by omega)]; omega) _) fun a hk => ?_
      refine ls hk rfl rfl rfl (e_shr hk rfl rfl (by omega) (u_shr _ (56 - 8 * i) (by omega)) _) fun a hk => ?_
      refine ls hk rfl rfl rfl (e_conv hk rfl Tryd.underlying32 Tryd.underlying5 (u_b _) _) fun a hk => ?_
      refine la hk rfl (a_lit (cells := #[B (UInt8.ofNat (8 * m.length / 2 ^ (56 - 8 * i) % 256))]) (zv := .int .u8 0) (sz := 1) (by_ := 1) hk rfl rfl Tryd.underlying22 el5 (by decide) (by decide) (lit1 _ _ rfl) rfl fun a w bl hk GL => ?_)
      have hB := ext_trans hB GL.ext
      have h1 := ext_at GL.ext h1
      have h2 := ext_at GL.ext h2
      have hown := own_ext hown GL.ext
      have hRd : Rd w (some ⟨bl, 0, none⟩) 1 1 1 ([UInt8.ofNat (8 * m.length / 2 ^ (56 - 8 * i) % 256)].map B) := Rd.of_block GL.at_ rfl (Nat.le_refl _) (fun i hi => by simp at hi; subst hi; rfl)
      have hCC := Nat.le_trans hCC GL.ext.size
      clear GL
      refine la hk rfl (a_app hk rfl rfl hown rfl hRd (bytes_one _) Tryd.underlying22 el5 rfl (by decide) (by omega) (by omega) hCC fun a w v hk hown' hKp => ?_)
      have hB := kept_below hKp hB hown hC0 (Nat.le_trans hC0 hCC)
      have h1 := kept_lt hKp hown hC1 h1
      have h2 := kept_lt hKp hown hC2 h2
      have hCC := Nat.le_trans hCC hKp.size
      clear hown hKp hRd
      obtain ⟨ad, c, rfl, _, _⟩ := Rd.of_own hown'
      have hown : w.ownsRow C 5 1 (.slice ad (1 + zeros m.length + (i + 1)) c) (1 + zeros m.length + (i + 1)) ((128 :: List.replicate (zeros m.length) 0 ++ (len8 (8 * m.length)).take (i + 1)).map B) := by
        rw [len8_take _ _ hi8, ← List.append_assoc, List.map_append]; exact hown'
      clear hown'
      refine ls hk rfl rfl rfl (e_assign hk rfl _) fun a hk => ?_
      refine lnil (hK11 _ _ ?_)
      refine wp_region_lit ?_
      refine ls hk rfl rfl rfl (e_add hk rfl rfl (i64 (by omega) (by omega)) _) fun a hk => ?_
      refine ls hk rfl rfl rfl (e_move hk rfl _) fun a hk => ?_
      refine lnil (show ∃ m : Nat, m < _ ∧ _ from ⟨8 - (i + 1), by omega, i + 1, ad, c, rfl, by omega, hk.sub _ ⟨rfl, rfl, rfl, rfl, rfl, trivial⟩, hB, hCC, h1, h2, hown⟩)
    · have hi8 : i = 8 := by have := of_decide_eq_false hb; omega
      subst hi8
      refine wp_exit (hK7 _ _ ?_)
      refine wp_seq_k fun K13 hK13 => ?_
      have hp : 128 :: List.replicate (zeros m.length) 0 ++ (len8 (8 * m.length)).take 8 = padding m.length := by
        rw [List.take_of_length_le (by rw [length_len8]; omega)]; rfl
      rw [hp] at hown
      have hpl : (padding m.length).length = 1 + zeros m.length + 8 := by simp [padding, length_len8]; omega
      obtain ⟨ad', c', e', _, hRd⟩ := Rd.of_own hown
      cases e'
      refine wp_region_lit ?_
      refine ls hk rfl rfl rfl (r_loadB hk rfl h1 Tryd.underlying34 rfl (by rw [sz34]; simp [length_sc _ _ _ hl])) fun a hk => ?_
      refine ls hk rfl rfl rfl (e_move hk rfl _) fun a hk => ?_
      refine ls hk rfl rfl rfl (e_str hk rfl hRd Tryd.underlying22 Tryd.underlying5 Tryd.underlying9) fun a hk => ?_
      refine la hk rfl (a_call hk rfl rfl (c_fn hk rfl ok27) (c27 m (padding m.length) _ _ ⟨blk, hblk, rfl⟩ (hG.ext hB) (by omega)) ?_)
      rintro e w ⟨v', rfl, ⟨blk', hblk', rfl⟩, hE⟩
      refine ⟨_, rfl, fun a hk => ?_⟩
      have h1 := ext_at hE h1
      have h2 := ext_at hE h2
      have hB := ext_trans hB hE
      have hl2 := hblk'.1
      clear hown hRd hCC hE
      refine la hk rfl (a_storeB hk rfl rfl (sc_one _ _ _) (by rw [sz34]; simp [length_sc _ _ _ hl2]) h1 (by simp [length_sc _ _ _ hl2, length_sc _ _ _ hl]) fun a w hk W10 => ?_)
      have hB := W10.below hB hg1
      have h2 := W10.keep (Ne.symm hne) h2
      have h1 := W10.at_
      clear W10
      generalize hs : state (m ++ padding m.length) = s at h1
      refine lnil (hK13 _ _ ?_)
      refine wp_seq_k fun K14 hK14 => ?_
      refine wp_region_lit ?_
      refine la hk rfl (a_alloc hk rfl zr24 fun a w b6 hk G6 => ?_)
      have n16 : b1 ≠ b6 := G6.ne h1
      have n26 : b2 ≠ b6 := G6.ne h2
      have hg6 : w0.heap.size ≤ b6 := Nat.le_trans hB.size G6.ge
      have hB := ext_trans hB G6.ext
      have h1 := ext_at G6.ext h1
      have h2 := ext_at G6.ext h2
      have h6 := G6.at_
      clear G6
      refine lnil (hK14 _ _ ?_)
      refine wp_seq_k fun K15 hK15 => ?_
      refine wp_seq_k fun K16 hK16 => ?_
      refine wp_region_lit ?_
      refine ls hk rfl rfl rfl (e_move hk rfl _) fun a hk => ?_
      refine lnil (hK16 _ _ ?_)
      refine wp_block ?_
      refine loopN (fun n a w => ∃ i : Nat, n = 32 - i ∧ i ≤ 32 ∧ Kn a 58 [(1, .pointer (some ⟨b1, 0, none⟩)), (2, .pointer (some ⟨b2, 0, none⟩)), (6, .pointer (some ⟨b6, 0, none⟩)), (40, I i)] ∧ Below w0.heap.size w0 w ∧ w.heap[b1]? = some (.cells (sc s blk' (m ++ padding m.length).length).toArray 34 (0, 0)) ∧ w.heap[b2]? = some (.cells (Value.agg (List.replicate 32 (Value.int .u8 0)).toArray).cells 24 (0, 0)) ∧ w.heap[b6]? = some (.cells (((out32 s).take i ++ List.replicate (32 - i) 0).map B).toArray 24 (0, 0))) (32) ?_ fun n a w hI => ?_
      · exact ⟨0, rfl, by omega, hk.sub _ ⟨rfl, rfl, rfl, rfl, trivial⟩, hB, h1, h2, h6⟩
      clear hB h1 h2 h6
      obtain ⟨i, rfl, hi, hk, hB, h1, h2, h6⟩ := hI
      refine wp_seq_k fun K17 hK17 => ?_
      refine wp_region_lit ?_
      refine ls hk rfl rfl rfl (e_lss hk rfl rfl rfl _) fun a hk => ?_
      refine lnil (hK17 _ _ ?_)
      refine wp_seq_k fun K18 hK18 => ?_
      refine cdB hk rfl (fun hb => ?_) (fun hb => ?_)
      · have hi32 : i < 32 := by have := of_decide_eq_true hb; omega
        refine wp_skip (hK18 _ _ ?_)
        refine wp_seq_k fun K19 hK19 => ?_
        refine wp_block ?_
        refine wp_seq_k fun K20 hK20 => ?_
        refine wp_region_lit ?_
        refine ls hk rfl rfl rfl (e_move hk rfl _) fun a hk => ?_
        refine ls hk rfl rfl rfl (e_assign hk rfl _) fun a hk => ?_
        refine lnil (hK20 _ _ ?_)
        refine wp_region_lit ?_
        refine ls hk rfl rfl rfl (e_move hk rfl _) fun a hk => ?_
        refine ls hk rfl rfl rfl (e_move hk rfl _) fun a hk => ?_
        refine ls hk rfl rfl rfl (e_quo (q := ((i / 4 : Nat) : Int)) hk rfl rfl (by decide) (by rw [show ((i : Int)).tdiv 4 = ((i / 4 : Nat) : Int) from i_quo i 4, i64 (by omega) (by omega)]) _) fun a hk => ?_
        refine ls hk rfl rfl rfl (e_field (off := 0) hk rfl Tryd.underlying34 rfl rfl nz30 _) fun a hk => ?_
        refine ls hk rfl rfl rfl (e_idxA1 (i / 4) hk rfl rfl Tryd.underlying30 sz29 rfl (by omega) _) fun a hk => ?_
        refine ls hk rfl rfl rfl (r_load (v := W (s.list.getD (i / 4) 0)) hk rfl Tryd.underlying29 rfl h1 (sc_word _ _ _ _ (by omega))) fun a hk => ?_
        refine ls hk rfl rfl rfl (e_move hk rfl _) fun a hk => ?_
        refine ls hk rfl rfl rfl (e_rem (q := ((i % 4 : Nat) : Int)) hk rfl rfl (by decide) (i_rem i 4) _) fun a hk => ?_
        refine ls hk rfl rfl rfl (e_mul (q := ((8 * (i % 4) : Nat) : Int)) hk rfl rfl (by rw [i64 (by omega) (by omega)]; omega) _) fun a hk => ?_
        refine ls hk rfl rfl rfl (e_sub (q := ((24 - 8 * (i % 4) : Nat) : Int)) hk rfl rfl (by rw [i64 (by omega) (by omega)]; omega) _) fun a hk => ?_
        refine ls hk rfl rfl rfl (e_shr hk rfl rfl (by omega) (w_shr _ (24 - 8 * (i % 4)) (by omega)) _) fun a hk => ?_
        refine ls hk rfl rfl rfl (e_conv hk rfl Tryd.underlying29 Tryd.underlying5 (w_b _) _) fun a hk => ?_
        refine ls hk rfl rfl rfl (e_idxA1 i hk rfl rfl Tryd.underlying24 sz5 rfl (by omega) _) fun a hk => ?_
        refine la hk rfl (a_store (v := B (outB s i)) hk rfl rfl rfl sz5 h6 (by simp [length_out32]; omega) fun a w hk W15 => ?_)
        have hB := W15.below hB hg6
        have h1 := W15.keep n16 h1
        have h2 := W15.keep n26 h2
        have h6 : w.heap[b6]? = some (.cells (((out32 s).take (i + 1) ++ List.replicate (32 - (i + 1)) 0).map B).toArray 24 (0, 0)) := by
          have h := W15.at_
          rw [show 32 - i = (31 - i) + 1 by omega, List.replicate_succ, show (out32 s).take i ++ 0 :: List.replicate (31 - i) 0 = (out32 s).take i ++ [0] ++ List.replicate (31 - i) 0 by simp,
            bytes_set _ _ _ _ _ (by simp [length_out32]; omega)] at h
          rw [h, out32_take _ _ hi32, show 32 - (i + 1) = 31 - i by omega]
        clear W15
        refine lnil (hK19 _ _ ?_)
        refine wp_region_lit ?_
        refine ls hk rfl rfl rfl (e_add hk rfl rfl (i64 (by omega) (by omega)) _) fun a hk => ?_
        refine ls hk rfl rfl rfl (e_move hk rfl _) fun a hk => ?_
        refine lnil (show ∃ m : Nat, m < _ ∧ _ from ⟨32 - (i + 1), by omega, i + 1, rfl, by omega, hk.sub _ ⟨rfl, rfl, rfl, rfl, trivial⟩, hB, h1, h2, h6⟩)
      · have hi32 : i = 32 := by have := of_decide_eq_false hb; omega
        subst hi32
        rw [List.take_of_length_le (by rw [length_out32]; omega), Nat.sub_self, List.replicate_zero, List.append_nil] at h6
        refine wp_exit (hK15 _ _ ?_)
        refine wp_seq_k fun K21 hK21 => ?_
        refine wp_region_lit ?_
        refine ls hk rfl rfl rfl (r_loadB hk rfl h6 Tryd.underlying24 rfl (by rw [sz24]; simp [length_out32])) fun a hk => ?_
        refine la hk rfl (a_storeB hk rfl rfl (bytes_oneA _) (by rw [sz24]; simp [length_out32]) h2 (by simp [length_out32, Value.cells]) fun a w hk W17 => ?_)
        refine lnil (hK21 _ _ ?_)
        refine wp_ret ?_
        refine retA hk rfl rfl W17.at_ Tryd.underlying24 rfl (by rw [sz24]; simp [length_out32]) ⟨?_, W17.below hB hg2⟩
        rw [← hs]
        rfl

theorem c23 (m : List UInt8) (ad : Option Addr) (n c : Nat) (w0 : World) (hR : Rd w0 ad n c 1 (m.map B)) (hG : GH w0) (hlen : m.length ≤ 1152921504606846976) :
    Calls Tryd.prog 23 #[.slice ad n c] w0 fun e w' => e = .returned (.agg ((sha m).map B).toArray) ∧ Ext w0 w' := by
  refine start 8 Tryd.func23 rfl rfl rfl fun a hk => ?_
  refine wp_seq_k fun K1 hK1 => ?_
  refine wp_region_lit ?_
  refine la hk rfl (a_alloc hk rfl zr24 fun a w b2 hk G2 => ?_)
  refine lnil (hK1 _ _ ?_)
  refine wp_seq_k fun K2 hK2 => ?_
  refine wp_region_ok (fun w => Rd w ad n c 1 (m.map B)) [4, 0, 3, 4, 4, 2] mixed ?_
  have hB := G2.ext.drew
  have h2 : w.drew.heap[b2]? = _ := G2.at_
  have hg2 := G2.ge
  have hS : Rd w.drew ad n c 1 (m.map B) := hR.ext hB
  refine da4 0 hk rfl (by kernel_rfl) rfl rfl hS (a_call hk rfl rfl (c_fn (vs := []) hk rfl ok26) (c26 _) ?_)
  rintro e w ⟨v, rfl, hIs, hE⟩
  refine ⟨_, rfl, fun a hk => ⟨hS.ext hE, ?_⟩⟩
  have hS := hS.ext hE
  have h2 := ext_at hE h2
  have hB := ext_trans hB hE
  refine d0 1 hk rfl (by kernel_rfl) rfl rfl rfl rfl (fun _ => e_move hk rfl _) fun a hk => ?_
  refine d3 2 hk rfl (by kernel_rfl) rfl rfl rfl rfl hS (fun w hS => e_str hk rfl hS Tryd.underlying22 Tryd.underlying5 Tryd.underlying9) fun a hk => ?_
  refine da4 3 hk rfl (by kernel_rfl) rfl rfl hS (a_call hk rfl rfl (c_fn hk rfl ok27) (c27 [] m _ _ hIs (hG.ext hB) (by simp; omega)) ?_)
  rintro e w ⟨v, rfl, hIs, hE⟩
  refine ⟨_, rfl, fun a hk => ⟨hS.ext hE, ?_⟩⟩
  have hS := hS.ext hE
  have h2 := ext_at hE h2
  have hB := ext_trans hB hE
  refine da4 4 hk rfl (by kernel_rfl) rfl rfl hS (a_call hk rfl rfl (c_fn hk rfl ok29) (c29 m _ _ hIs (hG.ext hB) hlen) ?_)
  rintro e w ⟨rfl, hE⟩
  refine ⟨_, rfl, fun a hk => ⟨hS.ext hE, ?_⟩⟩
  have h2 := ext_at hE h2
  have hB := ext_trans hB hE
  refine da 5 hk rfl (by kernel_rfl) rfl rfl (a_storeB hk rfl rfl (bytes_oneA _) (by rw [sz24]; simp [length_sha]) h2 (by simp [length_sha, Value.cells]) fun a w hk W5 => ?_)
  refine okFin (by kernel_rfl) (hK2 _ _ ?_)
  refine wp_ret ?_
  exact retA hk rfl rfl W5.at_ Tryd.underlying24 rfl (by rw [sz24]; simp [length_sha]) ⟨rfl, W5.below hB hg2⟩

end Go.Proofs.YtidfbboalbchiaaDoor

namespace Go.Proofs.YtidfbboalbchiaaDoor

/-- How many bytes a number takes. -/
def nbF : Nat → Nat → Nat
  | 0, _ => 0
  | f + 1, m => if m = 0 then 0 else nbF f (m / 256) + 1
def nb (m : Nat) : Nat := nbF 8 m
theorem nbF_le : ∀ (f m : Nat), nbF f m ≤ f
  | 0, _ => Nat.le_refl _
  | f + 1, m => by
    unfold nbF
    split
    · omega
    · have := nbF_le f (m / 256); omega
theorem nbF_lt : ∀ (f m : Nat), m < 256 ^ f → m < 256 ^ (nbF f m)
  | 0, m, h => by simpa [nbF] using h
  | f + 1, m, h => by
    unfold nbF
    split
    · rename_i h0; subst h0; decide
    · have h1 : m / 256 < 256 ^ f := by rw [Nat.pow_succ] at h; exact Nat.div_lt_of_lt_mul (by rw [Nat.mul_comm]; exact h)
      have := nbF_lt f (m / 256) h1
      rw [Nat.pow_succ]
      omega
theorem nbF_ge : ∀ (f m : Nat), 0 < nbF f m → 256 ^ (nbF f m - 1) ≤ m
  | 0, m, h => by simp [nbF] at h
  | f + 1, m, h => by
    unfold nbF at h ⊢
    split
    · rename_i h0; rw [if_pos h0] at h; omega
    · rename_i h0
      by_cases hz : nbF f (m / 256) = 0
      · rw [hz]; simp; omega
      · have := nbF_ge f (m / 256) (by omega)
        rw [show nbF f (m / 256) + 1 - 1 = (nbF f (m / 256) - 1) + 1 by omega, Nat.pow_succ]
        omega
theorem nb_le (m : Nat) : nb m ≤ 8 := nbF_le 8 m
theorem nb_lt (m : Nat) (h : m < 18446744073709551616) : m < 256 ^ (nb m) := nbF_lt 8 m (by simpa using h)
theorem nb_ge (m : Nat) (h : 0 < nb m) : 256 ^ (nb m - 1) ≤ m := nbF_ge 8 m h
theorem nb_le_of (m k : Nat) (h : m < 256 ^ k) : nb m ≤ k := by
  rcases Nat.lt_or_ge k (nb m) with h1 | h1
  · have h2 := nb_ge m (by omega)
    have h3 : 256 ^ k ≤ 256 ^ (nb m - 1) := Nat.pow_le_pow_right (by decide) (by omega)
    omega
  · exact h1
theorem nb_ge_of (m k : Nat) (hm : m < 18446744073709551616) (h : 256 ^ k ≤ m) : k < nb m := by
  rcases Nat.lt_or_ge k (nb m) with h1 | h1
  · exact h1
  · have h2 := nb_lt m hm
    have h3 : 256 ^ nb m ≤ 256 ^ k := Nat.pow_le_pow_right (by decide) h1
    omega
/-- The magnitude that is encoded, and the flip of its bytes. -/
def mag (n : Int) : Nat := if n < 0 then (-1 - n).toNat else n.toNat
def flip (n : Int) : UInt8 := if n < 0 then 255 else 0
def digs (m : Nat) (fl : UInt8) : List UInt8 := (List.range (nb m)).map fun i => UInt8.ofNat (m / 256 ^ (nb m - 1 - i) % 256) ^^^ fl
/-- wire.Int. -/
def encI (n : Int) : List UInt8 := (UInt8.ofNat (128 + nb (mag n)) ^^^ flip n) :: digs (mag n) (flip n)
theorem length_digs (m : Nat) (fl : UInt8) : (digs m fl).length = nb m := by simp [digs]
theorem length_encI (n : Int) : (encI n).length = 1 + nb (mag n) := by simp [encI, length_digs]; omega
theorem length_encI_le (n : Int) : (encI n).length ≤ 9 := by rw [length_encI]; have := nb_le (mag n); omega
theorem digs_take (m : Nat) (fl : UInt8) (j : Nat) (h : j < nb m) : (digs m fl).take (j + 1) = (digs m fl).take j ++ [UInt8.ofNat (m / 256 ^ (nb m - 1 - j) % 256) ^^^ fl] := by
  rw [List.take_succ_eq_append_getElem (by rw [length_digs]; exact h)]
  simp [digs]
/-- wire.Bytes. -/
def encB (s : List UInt8) : List UInt8 := encI s.length ++ s
/-- wire.Ints. -/
def encL (l : List Int) : List UInt8 := encI l.length ++ (l.map encI).flatten
end Go.Proofs.YtidfbboalbchiaaDoor

namespace Go.Proofs.YtidfbboalbchiaaDoor
open Go Go.RowKit

theorem byteOf_nat (n : Nat) : byteOf (n : Int) = UInt8.ofNat n := by
  apply UInt8.toNat.inj
  have h1 : (byteOf (n : Int)).toNat = ((n : Int) % 256).toNat % 2 ^ 8 := rfl
  have h2 : (UInt8.ofNat n).toNat = n % 2 ^ 8 := rfl
  omega
theorem u_cpl (m : Nat) (h : m < 18446744073709551616) : IntKind.u64.wrap ((BitVec.ofInt IntKind.u64.bits IntKind.u64.max ^^^ BitVec.ofInt IntKind.u64.bits (m : Int)).toNat : Int) = ((18446744073709551615 - m : Nat) : Int) := by
  have e : (BitVec.ofInt IntKind.u64.bits IntKind.u64.max ^^^ BitVec.ofInt IntKind.u64.bits (m : Int)).toNat = 18446744073709551615 - m := by
    show (BitVec.ofInt 64 IntKind.u64.max ^^^ BitVec.ofInt 64 (m : Int)).toNat = _
    rw [show BitVec.ofInt 64 IntKind.u64.max = BitVec.allOnes 64 from by decide, BitVec.allOnes_xor, BitVec.toNat_not, BitVec.toNat_ofInt]
    omega
  rw [e, wrap64u]; omega
theorem u_shr8 (m s : Nat) (h : s < 8) : ((m : Int)).fdiv (2 ^ min (8 * s) IntKind.u64.bits) = ((m / 256 ^ s : Nat) : Int) := by
  rw [u_shr m (8 * s) (by omega), Nat.pow_mul]
theorem lit_byte (b : UInt8) {w w' : World} {bl : Nat} (hG : Grew w w' bl (.cells #[B b] 5)) : Rd w' (some ⟨bl, 0, none⟩) 1 1 1 ([b].map B) :=
  Rd.of_block hG.at_ rfl (Nat.le_refl _) (fun i hi => by simp at hi; subst hi; rfl)

set_option maxRecDepth 4000 in
set_option maxHeartbeats 1000000 in
theorem c78 (n₀ : Int) (w0 : World) (h0 : -9223372036854775808 ≤ n₀) (h1 : n₀ ≤ 9223372036854775807) :
    Calls Tryd.prog 78 #[I n₀] w0 fun e w' => ∃ ad c, e = .returned (.slice ad (encI n₀).length c) ∧ w'.ownsRow w0.heap.size 5 1 (.slice ad (encI n₀).length c) (encI n₀).length ((encI n₀).map B) ∧ Ext w0 w' := by
  have hm : mag n₀ < 18446744073709551616 := by unfold mag; split <;> omega
  refine start 47 Tryd.func78 rfl rfl rfl fun a hk => ?_
  refine wp_seq_k fun K1 hK1 => ?_
  refine wp_region_lit ?_
  refine ls hk rfl rfl rfl (e_assign hk rfl _) fun a hk => ?_
  refine lnil (hK1 _ _ ?_)
  refine wp_scope_straight ?_
  refine wp_seq_k fun K2 hK2 => ?_
  have hE : Ext w0 w0 := Below.refl _ _
  refine wp_region_lit ?_
  refine ls hk rfl rfl rfl (e_move hk rfl _) fun a hk => ?_
  refine ls hk rfl rfl rfl (e_conv hk rfl Tryd.underlying3 Tryd.underlying32 rfl _) fun a hk => ?_
  refine ls hk rfl rfl rfl (e_assign hk rfl _) fun a hk => ?_
  refine ls hk rfl rfl rfl (e_assign hk rfl _) fun a hk => ?_
  refine lnil (hK2 _ _ ?_)
  refine wp_seq_k fun K3 hK3 => ?_
  have hJ3 : ∀ (a : Act) (w : World), Kn a 47 [(2, .slice none 0 0), (3, .int .u64 (mag n₀ : Int)), (4, B (flip n₀))] ∧ Ext w0 w → K3 a w := by
    intro a w ⟨hk, hE⟩
    refine hK3 _ _ ?_
    refine wp_seq_k fun K4 hK4 => ?_
    refine wp_region_lit ?_
    refine ls hk rfl rfl rfl (e_assign hk rfl _) fun a hk => ?_
    refine lnil (hK4 _ _ ?_)
    refine wp_seq_k fun K5 hK5 => ?_
    refine wp_label (hK5 _ _ ?_)
    refine wp_seq_k fun K6 hK6 => ?_
    have hJ6 : ∀ (a : Act) (w : World), Kn a 47 [(2, .slice none 0 0), (3, .int .u64 (mag n₀ : Int)), (4, B (flip n₀)), (5, I (nb (mag n₀)))] ∧ Ext w0 w → K6 a w := by
      intro a w ⟨hk, hE⟩
      refine hK6 _ _ ?_
      refine wp_seq_k fun K7 hK7 => ?_
      have hnb := nb_le (mag n₀)
      refine wp_region_lit ?_
      refine ls hk rfl rfl rfl (e_move hk rfl _) fun a hk => ?_
      refine ls hk rfl rfl rfl (e_add hk rfl rfl (i64 (by omega) (by omega)) _) fun a hk => ?_
      refine ls hk rfl rfl rfl (e_conv hk rfl Tryd.underlying3 Tryd.underlying5 (i_b _) _) fun a hk => ?_
      refine ls hk rfl rfl rfl (e_move hk rfl _) fun a hk => ?_
      refine ls hk rfl rfl rfl (e_xor hk rfl rfl (b_xor _ _) _) fun a hk => ?_
      refine la hk rfl (a_lit (cells := #[B (byteOf (128 + (nb (mag n₀) : Int)) ^^^ flip n₀)]) (zv := .int .u8 0) (sz := 1) (by_ := 1) hk rfl rfl Tryd.underlying22 el5 (by decide) (by decide) (lit1 _ _ rfl) rfl fun a w bl hk GL => ?_)
      have hB : Below w0.heap.size w0 w := ext_trans hE GL.ext
      have hown := own_mono (lit_own (n := 1) (sz := 1) GL rfl (by decide)) hE.size
      have hCC := hB.size
      clear GL
      generalize hn : nb (mag n₀) = k at hk hown
      have hk8 : k ≤ 8 := by rw [← hn]; exact nb_le _
      have hown : w.ownsRow w0.heap.size 5 1 (.slice (some ⟨bl, 0, none⟩) (1 + 0) 1) (1 + 0) (((UInt8.ofNat (128 + k) ^^^ flip n₀) :: (digs (mag n₀) (flip n₀)).take 0).map B) := by
        rw [show byteOf (128 + (k : Int)) = UInt8.ofNat (128 + k) from byteOf_nat (128 + k)] at hown
        exact hown
      refine ls hk rfl rfl rfl (e_assign hk rfl _) fun a hk => ?_
      refine lnil (hK7 _ _ ?_)
      refine wp_seq_k fun K8 hK8 => ?_
      refine wp_seq_k fun K9 hK9 => ?_
      refine wp_region_lit ?_
      refine ls hk rfl rfl rfl (e_move hk rfl _) fun a hk => ?_
      refine ls hk rfl rfl rfl (e_sub (q := (k : Int) - 1 - ((0 : Nat) : Int)) hk rfl rfl (by rw [i64 (by omega) (by omega)]; omega) _) fun a hk => ?_
      refine ls hk rfl rfl rfl (e_assign hk rfl _) fun a hk => ?_
      refine lnil (hK9 _ _ ?_)
      refine wp_block ?_
      refine loopN (fun n a w => ∃ (j : Nat) (ad : Option Addr) (c : Nat), n = k - j ∧ j ≤ k ∧ Kn a 47 [(3, .int .u64 (mag n₀ : Int)), (4, B (flip n₀)), (6, .slice ad (1 + j) c), (7, I ((k : Int) - 1 - (j : Int)))] ∧ Below w0.heap.size w0 w ∧ w0.heap.size ≤ w.heap.size ∧ w.ownsRow w0.heap.size 5 1 (.slice ad (1 + j) c) (1 + j) (((UInt8.ofNat (128 + k) ^^^ flip n₀) :: (digs (mag n₀) (flip n₀)).take j).map B)) (k) ?_ fun n a w hI => ?_
      · exact ⟨0, _, _, rfl, by omega, hk.sub _ ⟨rfl, rfl, rfl, rfl, trivial⟩, hB, hCC, hown⟩
      clear hB hown hCC
      obtain ⟨j, ad, c, rfl, hj, hk, hB, hCC, hown⟩ := hI
      refine wp_seq_k fun K10 hK10 => ?_
      refine wp_seq_k fun K11 hK11 => ?_
      refine wp_region_lit ?_
      refine ls hk rfl rfl rfl (e_move hk rfl _) fun a hk => ?_
      refine ls hk rfl rfl rfl (e_geq hk rfl rfl rfl _) fun a hk => ?_
      refine lnil (hK11 _ _ ?_)
      refine cdB hk rfl (fun hb => ?_) (fun hb => ?_)
      · have hjk : j < k := by have := of_decide_eq_true hb; omega
        refine wp_skip (hK10 _ _ ?_)
        refine wp_seq_k fun K12 hK12 => ?_
        refine wp_block ?_
        refine wp_region_lit ?_
        refine ls hk rfl rfl rfl (e_move hk rfl _) fun a hk => ?_
        refine ls hk rfl rfl rfl (e_move hk rfl _) fun a hk => ?_
        refine ls hk rfl rfl rfl (e_move hk rfl _) fun a hk => ?_
        refine ls hk rfl rfl rfl (e_mul (q := ((8 * (k - 1 - j) : Nat) : Int)) hk rfl rfl (by rw [i64 (by omega) (by omega)]; omega) _) fun a hk => ?_
        refine ls hk rfl rfl rfl (e_shr hk rfl rfl (by omega) (u_shr8 _ (k - 1 - j) (by omega)) _) fun a hk => ?_
        refine ls hk rfl rfl rfl (e_conv hk rfl Tryd.underlying32 Tryd.underlying5 (u_b _) _) fun a hk => ?_
        refine ls hk rfl rfl rfl (e_move hk rfl _) fun a hk => ?_
        refine ls hk rfl rfl rfl (e_xor hk rfl rfl (b_xor _ _) _) fun a hk => ?_
        refine la hk rfl (a_lit (cells := #[B (UInt8.ofNat (mag n₀ / 256 ^ (k - 1 - j) % 256) ^^^ flip n₀)]) (zv := .int .u8 0) (sz := 1) (by_ := 1) hk rfl rfl Tryd.underlying22 el5 (by decide) (by decide) (lit1 _ _ rfl) rfl fun a w bl hk GL => ?_)
        have hB := ext_trans hB GL.ext
        have hown := own_ext hown GL.ext
        have hRd := lit_byte _ GL
        have hCC := Nat.le_trans hCC GL.ext.size
        clear GL
        refine la hk rfl (a_app hk rfl rfl hown rfl hRd (bytes_one _) Tryd.underlying22 el5 rfl (by decide) (by omega) (by omega) hCC fun a w v hk hown' hKp => ?_)
        have hB := kept_below hKp hB hown (Nat.le_refl _) hCC
        have hCC := Nat.le_trans hCC hKp.size
        clear hown hKp hRd
        obtain ⟨ad, c, rfl, _, _⟩ := Rd.of_own hown'
        have hown : w.ownsRow w0.heap.size 5 1 (.slice ad (1 + (j + 1)) c) (1 + (j + 1)) (((UInt8.ofNat (128 + k) ^^^ flip n₀) :: (digs (mag n₀) (flip n₀)).take (j + 1)).map B) := by
          rw [digs_take _ _ _ (by omega), hn, ← List.cons_append, List.map_append]; exact hown'
        clear hown'
        refine ls hk rfl rfl rfl (e_assign hk rfl _) fun a hk => ?_
        refine lnil (hK12 _ _ ?_)
        refine wp_region_lit ?_
        refine ls hk rfl rfl rfl (e_move hk rfl _) fun a hk => ?_
        refine ls hk rfl rfl rfl (e_sub (q := (k : Int) - 1 - ((j + 1 : Nat) : Int)) hk rfl rfl (by rw [i64 (by omega) (by omega)]; omega) _) fun a hk => ?_
        refine ls hk rfl rfl rfl (e_assign hk rfl _) fun a hk => ?_
        refine lnil (show ∃ m : Nat, m < _ ∧ _ from ⟨k - (j + 1), by omega, j + 1, ad, c, rfl, by omega, hk.sub _ ⟨rfl, rfl, rfl, rfl, trivial⟩, hB, hCC, hown⟩)
      · have hjk : j = k := by have := of_decide_eq_false hb; omega
        subst hjk
        refine wp_exit (hK8 _ _ ?_)
        refine wp_seq_k fun K13 hK13 => ?_
        refine wp_region_lit ?_
        refine ls hk rfl rfl rfl (e_move hk rfl _) fun a hk => ?_
        refine ls hk rfl rfl rfl (e_assign hk rfl _) fun a hk => ?_
        refine lnil (hK13 _ _ ?_)
        refine wp_ret ?_
        rw [Exit.noGoto_ret]
        refine ret1 hk rfl rfl ⟨ad, c, ?_, ?_, hB⟩
        · rw [length_encI, hn]
        · rw [length_encI, hn]
          have e : encI n₀ = (UInt8.ofNat (128 + j) ^^^ flip n₀) :: (digs (mag n₀) (flip n₀)).take j := by
            rw [List.take_of_length_le (by rw [length_digs, hn]; exact Nat.le_refl _)]
            unfold encI; rw [hn]
          rw [e]; exact hown
    refine wp_block ?_
    refine loopN (fun n a w => n ≤ 8 ∧ nb (mag n₀) ≤ n ∧ Kn a 47 [(2, .slice none 0 0), (3, .int .u64 (mag n₀ : Int)), (4, B (flip n₀)), (5, I n)] ∧ Ext w0 w) (8) ?_ fun k a w hI => ?_
    · exact ⟨by omega, nb_le _, hk.sub _ ⟨rfl, rfl, rfl, rfl, trivial⟩, hE⟩
    clear hE
    obtain ⟨hk8, hkn, hk, hE⟩ := hI
    refine wp_seq_k fun K14 hK14 => ?_
    refine wp_seq_k fun K15 hK15 => ?_
    refine wp_region_lit ?_
    refine ls hk rfl rfl rfl (e_move hk rfl _) fun a hk => ?_
    refine ls hk rfl rfl rfl (e_gtr hk rfl rfl rfl _) fun a hk => ?_
    refine lnil (hK15 _ _ ?_)
    refine cdB hk rfl (fun hb => ?_) (fun hb => ?_)
    · have hk0 : 0 < k := by have := of_decide_eq_true hb; omega
      refine wp_skip (hK14 _ _ ?_)
      refine wp_block ?_
      refine wp_seq_k fun K16 hK16 => ?_
      refine wp_seq_k fun K17 hK17 => ?_
      refine wp_region_lit ?_
      refine ls hk rfl rfl rfl (e_move hk rfl _) fun a hk => ?_
      refine ls hk rfl rfl rfl (e_move hk rfl _) fun a hk => ?_
      refine ls hk rfl rfl rfl (e_sub (q := ((k - 1 : Nat) : Int)) hk rfl rfl (by rw [i64 (by omega) (by omega)]; omega) _) fun a hk => ?_
      refine ls hk rfl rfl rfl (e_mul (q := ((8 * (k - 1) : Nat) : Int)) hk rfl rfl (by rw [i64 (by omega) (by omega)]; omega) _) fun a hk => ?_
      refine ls hk rfl rfl rfl (e_shr hk rfl rfl (by omega) (u_shr8 _ (k - 1) (by omega)) _) fun a hk => ?_
      refine ls hk rfl rfl rfl (e_gtr hk rfl rfl rfl _) fun a hk => ?_
      refine lnil (hK17 _ _ ?_)
      refine cdB hk rfl (fun hb => ?_) (fun hb => ?_)
      · have hge : 256 ^ (k - 1) ≤ mag n₀ := by
          have h := of_decide_eq_true hb
          have h1 : 0 < mag n₀ / 256 ^ (k - 1) := by generalize mag n₀ / 256 ^ (k - 1) = q at h; omega
          exact (Nat.div_pos_iff.1 h1).2
        have he : nb (mag n₀) = k := by have := nb_ge_of (mag n₀) (k - 1) hm hge; omega
        have hk := hk.sub [(2, .slice none 0 0), (3, .int .u64 (mag n₀ : Int)), (4, B (flip n₀)), (5, I (nb (mag n₀)))] ⟨rfl, rfl, rfl, by rw [he]; rfl, trivial⟩
        refine wp_exit (hJ6 _ _ ⟨hk, hE⟩)
      · have hkn1 : nb (mag n₀) ≤ k - 1 := by
          have h := of_decide_eq_false hb
          have h1 : mag n₀ / 256 ^ (k - 1) = 0 := by generalize mag n₀ / 256 ^ (k - 1) = q at h; omega
          exact nb_le_of _ _ ((Nat.div_eq_zero_iff_lt (Nat.pow_pos (by decide))).1 h1)
        refine wp_skip (hK16 _ _ ?_)
        refine wp_region_lit ?_
        refine ls hk rfl rfl rfl (e_move hk rfl _) fun a hk => ?_
        refine ls hk rfl rfl rfl (e_sub (q := ((k - 1 : Nat) : Int)) hk rfl rfl (by rw [i64 (by omega) (by omega)]; omega) _) fun a hk => ?_
        refine ls hk rfl rfl rfl (e_assign hk rfl _) fun a hk => ?_
        refine lnil (show ∃ m : Nat, m < _ ∧ _ from ⟨k - 1, by omega, by omega, hkn1, hk.sub _ ⟨rfl, rfl, rfl, rfl, trivial⟩, hE⟩)
    · have hk0 : k = 0 := by have := of_decide_eq_false hb; omega
      subst hk0
      have he : nb (mag n₀) = 0 := by omega
      have hk := hk.sub [(2, .slice none 0 0), (3, .int .u64 (mag n₀ : Int)), (4, B (flip n₀)), (5, I (nb (mag n₀)))] ⟨rfl, rfl, rfl, by rw [he]; rfl, trivial⟩
      refine wp_exit (hJ6 _ _ ⟨hk, hE⟩)
  refine wp_seq_k fun K18 hK18 => ?_
  refine wp_region_lit ?_
  refine ls hk rfl rfl rfl (e_move hk rfl _) fun a hk => ?_
  refine ls hk rfl rfl rfl (e_lss hk rfl rfl rfl _) fun a hk => ?_
  refine lnil (hK18 _ _ ?_)
  refine cdB hk rfl (fun hb => ?_) (fun hb => ?_)
  · have hneg : n₀ < 0 := by have := of_decide_eq_true hb; omega
    refine wp_region_lit ?_
    refine ls hk rfl rfl rfl (e_move hk rfl _) fun a hk => ?_
    refine ls hk rfl rfl rfl (e_cpl (q := ((mag n₀ : Nat) : Int)) hk rfl rfl (by rw [show IntKind.u64.wrap n₀ = (((n₀ + 18446744073709551616).toNat : Nat) : Int) by rw [wrap64u]; omega, u_cpl _ (by omega)]; unfold mag; rw [if_pos hneg]; omega) _) fun a hk => ?_
    refine ls hk rfl rfl rfl (e_assign hk rfl _) fun a hk => ?_
    refine ls hk rfl rfl rfl (e_assign hk rfl _) fun a hk => ?_
    have hk := hk.sub [(2, .slice none 0 0), (3, .int .u64 (mag n₀ : Int)), (4, B (flip n₀))] ⟨rfl, rfl, by unfold flip; rw [if_pos hneg]; rfl, trivial⟩
    refine lnil (hJ3 _ _ ⟨hk, hE⟩)
  · have hneg : ¬ n₀ < 0 := by have := of_decide_eq_false hb; omega
    have hk := hk.sub [(2, .slice none 0 0), (3, .int .u64 (mag n₀ : Int)), (4, B (flip n₀))] ⟨rfl, by show some (Value.int .u64 (IntKind.u64.wrap n₀)) = _; rw [show IntKind.u64.wrap n₀ = (mag n₀ : Int) by rw [wrap64u]; unfold mag; rw [if_neg hneg]; omega], by unfold flip; rw [if_neg hneg]; rfl, trivial⟩
    refine wp_skip (hJ3 _ _ ⟨hk, hE⟩)

theorem c73 (s : List UInt8) (w0 : World) (h : s.length ≤ 140737488351232) :
    Calls Tryd.prog 73 #[Str s] w0 fun e w' => ∃ ad c, e = .returned (.slice ad (encB s).length c) ∧ w'.ownsRow w0.heap.size 5 1 (.slice ad (encB s).length c) (encB s).length ((encB s).map B) ∧ Ext w0 w' := by
  refine start 8 Tryd.func73 rfl rfl rfl fun a hk => ?_
  refine wp_seq_k fun K1 hK1 => ?_
  refine wp_region_lit ?_
  refine ls hk rfl rfl rfl (e_assign hk rfl _) fun a hk => ?_
  refine lnil (hK1 _ _ ?_)
  refine wp_seq_k fun K2 hK2 => ?_
  refine wp_region_lit ?_
  refine ls hk rfl rfl rfl (e_move hk rfl _) fun a hk => ?_
  refine ls hk rfl rfl rfl (e_lenStr hk rfl Tryd.underlying9 _) fun a hk => ?_
  refine la hk rfl (a_call hk rfl rfl (c_fn hk rfl ok78) (c78 (s.length : Int) _ (by omega) (by omega)) ?_)
  rintro e w ⟨ad, c, rfl, hown, hE⟩
  refine ⟨_, rfl, fun a hk => ?_⟩
  refine ls hk rfl rfl rfl (e_move hk rfl _) fun a hk => ?_
  refine la hk rfl (a_appStr hk rfl rfl hown rfl Tryd.underlying22 Tryd.underlying9 el5 (by have := length_encI_le (s.length : Int); omega) hE.size fun a w v hk hown' hKp => ?_)
  have hB := kept_below hKp hE hown (Nat.le_refl _) hE.size
  obtain ⟨ad, c, rfl, _, _⟩ := Rd.of_own hown'
  refine ls hk rfl rfl rfl (e_assign hk rfl _) fun a hk => ?_
  refine lnil (hK2 _ _ ?_)
  refine wp_ret ?_
  refine ret1 hk rfl rfl ⟨ad, c, ?_, ?_, hB⟩
  · rw [encB, List.length_append]
  · rw [encB, List.length_append, List.map_append]; exact hown'

end Go.Proofs.YtidfbboalbchiaaDoor
