/- The walks of the specification's Int and Bytes: encodings. -/
import Derived.Test.YtidfbboalbchiaaDoorA18
namespace Go.Proofs.YtidfbboalbchiaaDoor
open Go Go.RowKit

/-- The i-th digit of m. -/
def dg (m i : Nat) : UInt8 := UInt8.ofNat (m / 256 ^ i % 256)
def dgs (m k : Nat) : List UInt8 := (List.range k).map (dg m)
theorem dgs_succ (m k : Nat) : dgs m (k + 1) = dgs m k ++ [dg m k] := by
  simp [dgs, List.range_succ]
theorem length_dgs (m k : Nat) : (dgs m k).length = k := by simp [dgs]
theorem dgs_get (m k i : Nat) (h : i < k) : (dgs m k).getD i 0 = dg m i := by simp [dgs, h]
theorem div_pow (m k : Nat) : m / 256 ^ k / 256 = m / 256 ^ (k + 1) := by rw [Nat.div_div_eq_div_mul, Nat.pow_succ]
theorem head_pos (n : Int) (h : ¬ n < 0) : byteOf (128 + (nb (mag n) : Int)) = UInt8.ofNat (128 + nb (mag n)) ^^^ flip n := by
  rw [show (128 : Int) + (nb (mag n) : Int) = ((128 + nb (mag n) : Nat) : Int) by omega, byteOf_nat, flip, if_neg h]
  simp
theorem neg_byte (x : UInt8) : UInt8.ofNat (255 - x.toNat) = x ^^^ 255 := by
  have : ∀ x : Fin 256, UInt8.ofNat (255 - x.val) = UInt8.ofNat x.val ^^^ 255 := by decide +kernel
  have h := this ⟨x.toNat, x.toNat_lt⟩
  simpa using h
theorem head_neg (n : Int) (h : n < 0) : byteOf (127 - (nb (mag n) : Int)) = UInt8.ofNat (128 + nb (mag n)) ^^^ flip n := by
  have h8 := nb_le (mag n)
  rw [show (127 : Int) - (nb (mag n) : Int) = ((127 - nb (mag n) : Nat) : Int) by omega, byteOf_nat, flip, if_pos h, ← neg_byte]
  congr 1
  have e : (UInt8.ofNat (128 + nb (mag n))).toNat = (128 + nb (mag n)) % 2 ^ 8 := rfl
  omega
/-- A byte, taken from 255. -/
theorem b_neg (x : UInt8) : IntKind.u8.wrap (255 - (x.toNat : Int)) = ((x ^^^ 255).toNat : Int) := by
  rw [← neg_byte, wrap8u]
  have h := x.toNat_lt
  have e : (UInt8.ofNat (255 - x.toNat)).toNat = (255 - x.toNat) % 2 ^ 8 := rfl
  omega
theorem digs_len_take (m : Nat) (fl : UInt8) : (digs m fl).take (nb m) = digs m fl := List.take_of_length_le (by rw [length_digs]; omega)

set_option maxRecDepth 4000 in
set_option maxHeartbeats 1000000 in
theorem c118 (n₀ : Int) (w0 : World) (h0 : -9223372036854775808 ≤ n₀) (h1 : n₀ ≤ 9223372036854775807) :
    Calls Tryd.prog 118 #[I n₀] w0 fun e w' => ∃ ad c, e = .returned (.slice ad (encI n₀).length c) ∧ w'.ownsRow w0.heap.size 5 1 (.slice ad (encI n₀).length c) (encI n₀).length ((encI n₀).map B) ∧ Ext w0 w' := by
  have hm63 : mag n₀ ≤ 9223372036854775807 := by unfold mag; split <;> omega
  have hm64 : mag n₀ < 18446744073709551616 := by omega
  refine start 59 Tryd.func118 rfl rfl rfl fun a hk => ?_
  have hB : Ext w0 w0 := Below.refl _ _
  refine wp_seq_k fun K1 hK1 => ?_
  refine wp_region_lit ?_
  refine ls hk rfl rfl rfl (e_assign hk rfl _) fun a hk => ?_
  refine lnil (hK1 _ _ ?_)
  refine wp_seq_k fun K2 hK2 => ?_
  refine wp_region_lit ?_
  refine ls hk rfl rfl rfl (e_move hk rfl _) fun a hk => ?_
  refine ls hk rfl rfl rfl (e_assign hk rfl _) fun a hk => ?_
  refine lnil (hK2 _ _ ?_)
  refine wp_seq_k fun K3 hK3 => ?_
  have hJ3 : ∀ (a : Act) (w : World), (Kn a 59 [(0, I n₀), (3, I (mag n₀ : Nat))] ∧ (Ext w0 w)) → K3 a w := by
    clear hk hB
    intro a w ⟨hk, hB⟩
    refine hK3 _ _ ?_
    refine wp_seq_k fun K4 hK4 => ?_
    refine wp_region_lit ?_
    refine ls hk rfl rfl rfl (e_assign hk rfl _) fun a hk => ?_
    refine lnil (hK4 _ _ ?_)
    refine wp_seq_k fun K5 hK5 => ?_
    refine wp_block ?_
    refine loopN (fun n a w => ∃ (k : Nat) (ad : Option Addr) (c : Nat), n = nb (mag n₀) - k ∧ k ≤ nb (mag n₀) ∧ Kn a 59 [(0, I n₀), (3, I (mag n₀ / 256 ^ k : Nat)), (4, .slice ad k c)] ∧ Ext w0 w ∧ w.ownsRow w0.heap.size 5 1 (.slice ad (k) c) (k) ((dgs (mag n₀) k).map B)) (nb (mag n₀)) ?_ fun n a w hI => ?_
    · exact ⟨0, none, 0, rfl, Nat.zero_le _, hk.sub _ ⟨rfl, by rw [Nat.pow_zero, Nat.div_one]; rfl, rfl, trivial⟩, hB, own_nil⟩
    clear hB
    obtain ⟨k, ad, c, rfl, hkn, hk, hB, hown⟩ := hI
    have hn8 := nb_le (mag n₀)
    have hCC := hB.size
    have hdl : mag n₀ / 256 ^ k ≤ mag n₀ := Nat.div_le_self _ _
    refine wp_seq_k fun K6 hK6 => ?_
    refine wp_seq_k fun K7 hK7 => ?_
    refine wp_region_lit ?_
    refine ls hk rfl rfl rfl (e_move hk rfl _) fun a hk => ?_
    refine ls hk rfl rfl rfl (e_gtr hk rfl rfl rfl _) fun a hk => ?_
    refine lnil (hK7 _ _ ?_)
    refine cdB hk rfl (fun hb => ?_) (fun hb => ?_)
    · have hpos : 0 < mag n₀ / 256 ^ k := by
        have h := of_decide_eq_true hb
        generalize mag n₀ / 256 ^ k = q at h; omega
      have hlt : k < nb (mag n₀) := nb_ge_of (mag n₀) k hm64 (Nat.div_pos_iff.1 hpos).2
      refine wp_skip (hK6 _ _ ?_)
      refine wp_block ?_
      refine wp_seq_k fun K8 hK8 => ?_
      refine wp_region_lit ?_
      refine ls hk rfl rfl rfl (e_move hk rfl _) fun a hk => ?_
      refine ls hk rfl rfl rfl (e_move hk rfl _) fun a hk => ?_
      refine ls hk rfl rfl rfl (e_rem (q := ((mag n₀ / 256 ^ k % 256 : Nat) : Int)) hk rfl rfl (by decide) (i_rem (mag n₀ / 256 ^ k) 256) _) fun a hk => ?_
      refine ls hk rfl rfl rfl (e_conv hk rfl Tryd.underlying3 Tryd.underlying5 (i_b _) _) fun a hk => ?_
      rw [byteOf_nat] at hk
      refine la hk rfl (a_lit (cells := #[B (dg (mag n₀) k)]) (zv := .int .u8 0) (sz := 1) (by_ := 1) hk rfl rfl Tryd.underlying22 el5 (by decide) (by decide) (lit1 _ _ rfl) rfl fun a w bl hk GL => ?_)
      have hB := ext_trans hB GL.ext
      have hown := own_ext hown GL.ext
      have hRd := lit_byte _ GL
      have hCC := Nat.le_trans hCC GL.ext.size
      clear GL
      refine la hk rfl (a_app hk rfl rfl hown rfl hRd (bytes_one _) Tryd.underlying22 el5 rfl (by decide) (by omega) (by omega) hCC fun a w v hk hown' hKp => ?_)
      have hB := kept_below hKp hB hown (Nat.le_refl _) hCC
      have hCC := Nat.le_trans hCC hKp.size
      clear hown hRd hKp
      obtain ⟨ad, c, rfl, _, _⟩ := Rd.of_own hown'
      have hown : w.ownsRow w0.heap.size 5 1 (.slice ad (k + 1) c) (k + 1) ((dgs (mag n₀) (k + 1)).map B) := by
        rw [dgs_succ, List.map_append]; exact hown'
      clear hown'
      refine ls hk rfl rfl rfl (e_assign hk rfl _) fun a hk => ?_
      refine lnil (hK8 _ _ ?_)
      refine wp_region_lit ?_
      refine ls hk rfl rfl rfl (e_move hk rfl _) fun a hk => ?_
      refine ls hk rfl rfl rfl (e_quo (q := ((mag n₀ / 256 ^ k / 256 : Nat) : Int)) hk rfl rfl (by decide) (by rw [show ((mag n₀ / 256 ^ k : Nat) : Int).tdiv 256 = ((mag n₀ / 256 ^ k / 256 : Nat) : Int) from i_quo (mag n₀ / 256 ^ k) 256]; exact i64 (by omega) (by generalize mag n₀ / 256 ^ k = q at hdl ⊢; omega)) _) fun a hk => ?_
      refine ls hk rfl rfl rfl (e_assign hk rfl _) fun a hk => ?_
      refine lnil (show ∃ m : Nat, m < _ ∧ _ from ⟨nb (mag n₀) - (k + 1), by omega, k + 1, _, _, rfl, by omega, hk.sub _ ⟨rfl, by rw [← div_pow]; rfl, rfl, trivial⟩, hB, hown⟩)
    · have hz : mag n₀ / 256 ^ k = 0 := by
        have h := of_decide_eq_false hb
        generalize mag n₀ / 256 ^ k = q at h; omega
      have hke : k = nb (mag n₀) := by
        have := nb_le_of (mag n₀) k ((Nat.div_eq_zero_iff_lt (Nat.pow_pos (by decide))).1 hz)
        omega
      clear hz hb
      subst hke
      refine wp_exit (hK5 _ _ ?_)
      refine wp_seq_k fun K9 hK9 => ?_
      obtain ⟨w1, rfl⟩ : ∃ w1, w1 = w := ⟨w, rfl⟩
      have hB0 := hB
      clear hB hCC
      have hB : Ext w1 w1 := Below.refl _ _
      have hCC : w1.heap.size ≤ w1.heap.size := Nat.le_refl _
      obtain ⟨ad4, c4, hv, _, hR4⟩ := Rd.of_own hown
      cases hv
      clear hown hdl
      have hown : w1.ownsRow w1.heap.size 5 1 (.slice none 0 0) 0 (([] : List UInt8).map B) := own_nil
      refine wp_region_lit ?_
      refine ls hk rfl rfl rfl (e_move hk rfl _) fun a hk => ?_
      refine ls hk rfl rfl rfl (e_lenS hk rfl Tryd.underlying22 _) fun a hk => ?_
      refine ls hk rfl rfl rfl (e_assign hk rfl _) fun a hk => ?_
      refine lnil (hK9 _ _ ?_)
      refine wp_seq_k fun K10 hK10 => ?_
      refine wp_region_lit ?_
      refine ls hk rfl rfl rfl (e_assign hk rfl _) fun a hk => ?_
      refine lnil (hK10 _ _ ?_)
      refine wp_seq_k fun K11 hK11 => ?_
      have hJ11 : ∀ (a : Act) (w : World), (∃ (ad6 : Option Addr) (c6 : Nat), Kn a 59 [(0, I n₀), (4, .slice ad (nb (mag n₀)) c), (5, I (nb (mag n₀))), (6, .slice ad6 1 c6)] ∧ (Ext w1 w) ∧ (w1.heap.size ≤ w.heap.size) ∧ (w.ownsRow w1.heap.size 5 1 (.slice ad6 (1) c6) (1) (([UInt8.ofNat (128 + nb (mag n₀)) ^^^ flip n₀]).map B))) → K11 a w := by
        clear hk hB
        intro a w ⟨ad6, c6, hk, hB, hCC, hown⟩
        refine hK11 _ _ ?_
        refine wp_seq_k fun K12 hK12 => ?_
        refine wp_seq_k fun K13 hK13 => ?_
        refine wp_region_lit ?_
        refine ls hk rfl rfl rfl (e_move hk rfl _) fun a hk => ?_
        refine ls hk rfl rfl rfl (e_sub hk rfl rfl (i64 (by omega) (by omega)) _) fun a hk => ?_
        refine ls hk rfl rfl rfl (e_assign hk rfl _) fun a hk => ?_
        refine lnil (hK13 _ _ ?_)
        refine wp_block ?_
        refine loopN (fun n a w => ∃ j : Nat, ∃ (ad6 : Option Addr) (c6 : Nat), n = (nb (mag n₀)) - j ∧ j ≤ (nb (mag n₀)) ∧ Kn a 59 [(0, I n₀), (4, .slice ad (nb (mag n₀)) c), (6, .slice ad6 (1 + j) c6), (7, I (((nb (mag n₀) : Nat) : Int) - 1 - ((j : Nat) : Int)))] ∧ (Ext w1 w) ∧ (w1.heap.size ≤ w.heap.size) ∧ (w.ownsRow w1.heap.size 5 1 (.slice ad6 (1 + j) c6) (1 + j) (((UInt8.ofNat (128 + nb (mag n₀)) ^^^ flip n₀) :: (digs (mag n₀) (flip n₀)).take j).map B))) ((nb (mag n₀)) - 0) ?_ fun n a w hI => ?_
        · exact ⟨0, _, _, rfl, by omega, hk.sub _ ⟨rfl, rfl, rfl, by rw [show ((nb (mag n₀) : Nat) : Int) - 1 - ((0 : Nat) : Int) = ((nb (mag n₀) : Nat) : Int) - 1 by omega]; rfl, trivial⟩, hB, hCC, hown⟩
        clear hk hB hCC hown
        obtain ⟨j, ad6, c6, rfl, hi_le, hk, hB, hCC, hown⟩ := hI
        refine wp_seq_k fun K14 hK14 => ?_
        refine wp_seq_k fun K15 hK15 => ?_
        refine wp_region_lit ?_
        refine ls hk rfl rfl rfl (e_move hk rfl _) fun a hk => ?_
        refine ls hk rfl rfl rfl (e_geq hk rfl rfl rfl _) fun a hk => ?_
        refine lnil (hK15 _ _ ?_)
        refine cdB hk rfl (fun hb => ?_) (fun hb => ?_)
        · have hj : j < nb (mag n₀) := by have := of_decide_eq_true hb; omega
          refine wp_skip (hK14 _ _ ?_)
          refine wp_seq_k fun K16 hK16 => ?_
          refine wp_block ?_
          refine wp_seq_k fun K17 hK17 => ?_
          obtain ⟨b4, o4, rfl, hc4⟩ := (hR4.ext hB).2.2 (nb (mag n₀) - 1 - j) (B (dg (mag n₀) (nb (mag n₀) - 1 - j))) (by rw [List.getElem?_map, dgs, List.getElem?_map, List.getElem?_range (by omega)]; rfl)
          refine wp_region_lit ?_
          refine ls hk rfl rfl rfl (e_move hk rfl _) fun a hk => ?_
          refine ls hk rfl rfl rfl (e_move hk rfl _) fun a hk => ?_
          refine ls hk rfl rfl rfl (e_idxS1 (nb (mag n₀) - 1 - j) hk rfl rfl Tryd.underlying22 sz5 (by omega) (by omega) _) fun a hk => ?_
          refine ls hk rfl rfl rfl (r_load1 hk rfl Tryd.underlying5 rfl hc4) fun a hk => ?_
          refine ls hk rfl rfl rfl (e_assign hk rfl _) fun a hk => ?_
          refine lnil (hK17 _ _ ?_)
          refine wp_seq_k fun K18 hK18 => ?_
          have hJ18 : ∀ (a : Act) (w : World), (Kn a 59 [(0, I n₀), (4, .slice (some ⟨b4, o4, none⟩) (nb (mag n₀)) c), (6, .slice ad6 (1 + j) c6), (7, I (((nb (mag n₀) : Nat) : Int) - 1 - ((j : Nat) : Int))), (8, B (dg (mag n₀) (nb (mag n₀) - 1 - j) ^^^ flip n₀))] ∧ (Ext w1 w) ∧ (w1.heap.size ≤ w.heap.size) ∧ (w.ownsRow w1.heap.size 5 1 (.slice ad6 (1 + j) c6) (1 + j) (((UInt8.ofNat (128 + nb (mag n₀)) ^^^ flip n₀) :: (digs (mag n₀) (flip n₀)).take j).map B))) → K18 a w := by
            clear hk hB hCC hown
            intro a w ⟨hk, hB, hCC, hown⟩
            refine hK18 _ _ ?_
            refine wp_region_lit ?_
            refine ls hk rfl rfl rfl (e_move hk rfl _) fun a hk => ?_
            refine ls hk rfl rfl rfl (e_move hk rfl _) fun a hk => ?_
            refine la hk rfl (a_lit (cells := #[B (dg (mag n₀) (nb (mag n₀) - 1 - j) ^^^ flip n₀)]) (zv := .int .u8 0) (sz := 1) (by_ := 1) hk rfl rfl Tryd.underlying22 el5 (by decide) (by decide) (lit1 _ _ rfl) rfl fun a w bl hk GL => ?_)
            have hB := ext_trans hB GL.ext
            have hown := own_ext hown GL.ext
            have hRd := lit_byte _ GL
            have hCC := Nat.le_trans hCC GL.ext.size
            clear GL
            refine la hk rfl (a_app hk rfl rfl hown rfl hRd (bytes_one _) Tryd.underlying22 el5 rfl (by decide) (by omega) (by omega) hCC fun a w v hk hown' hKp => ?_)
            have hB := kept_below hKp hB hown (Nat.le_refl _) hCC
            have hCC := Nat.le_trans hCC hKp.size
            clear hown hRd hKp
            obtain ⟨ad7, c7, rfl, _, _⟩ := Rd.of_own hown'
            rw [show 1 + j + 1 = 1 + (j + 1) by omega] at hk hown'
            have hown : w.ownsRow w1.heap.size 5 1 (.slice ad7 (1 + (j + 1)) c7) (1 + (j + 1)) (((UInt8.ofNat (128 + nb (mag n₀)) ^^^ flip n₀) :: (digs (mag n₀) (flip n₀)).take (j + 1)).map B) := by
              rw [digs_take _ _ _ hj]; simpa [dg] using hown'
            clear hown'
            refine ls hk rfl rfl rfl (e_assign hk rfl _) fun a hk => ?_
            refine lnil (hK16 _ _ ?_)
            refine wp_region_lit ?_
            refine ls hk rfl rfl rfl (e_move hk rfl _) fun a hk => ?_
            refine ls hk rfl rfl rfl (e_sub hk rfl rfl (i64 (by omega) (by omega)) _) fun a hk => ?_
            refine ls hk rfl rfl rfl (e_assign hk rfl _) fun a hk => ?_
            refine lnil (show ∃ m : Nat, m < _ ∧ _ from ⟨(nb (mag n₀)) - (j + 1), by omega, j + 1, _, _, rfl, by omega, hk.sub _ ⟨rfl, rfl, rfl, by rw [show ((nb (mag n₀) : Nat) : Int) - 1 - ((j + 1 : Nat) : Int) = ((nb (mag n₀) : Nat) : Int) - 1 - ((j : Nat) : Int) - 1 by omega]; rfl, trivial⟩, hB, hCC, hown⟩)
          refine wp_seq_k fun K19 hK19 => ?_
          refine wp_region_lit ?_
          refine ls hk rfl rfl rfl (e_move hk rfl _) fun a hk => ?_
          refine ls hk rfl rfl rfl (e_lss hk rfl rfl rfl _) fun a hk => ?_
          refine lnil (hK19 _ _ ?_)
          refine cdB hk rfl (fun hb => ?_) (fun hb => ?_)
          · have hneg : n₀ < 0 := by have := of_decide_eq_true hb; omega
            refine wp_region_lit ?_
            refine ls hk rfl rfl rfl (e_move hk rfl _) fun a hk => ?_
            refine ls hk rfl rfl rfl (e_sub hk rfl rfl (b_neg _) _) fun a hk => ?_
            refine ls hk rfl rfl rfl (e_assign hk rfl _) fun a hk => ?_
            refine lnil (hJ18 _ _ ⟨by first | exact hk.sub _ ⟨rfl, rfl, rfl, rfl, rfl, trivial⟩ | (rw [flip, if_neg hneg, UInt8.xor_zero]; exact hk.sub _ ⟨rfl, rfl, rfl, rfl, rfl, trivial⟩) | (rw [flip, if_pos hneg]; exact hk.sub _ ⟨rfl, rfl, rfl, rfl, rfl, trivial⟩), hB, hCC, hown⟩)
          · have hneg : ¬ n₀ < 0 := by have := of_decide_eq_false hb; omega
            refine wp_skip (hJ18 _ _ ⟨by first | exact hk.sub _ ⟨rfl, rfl, rfl, rfl, rfl, trivial⟩ | (rw [flip, if_neg hneg, UInt8.xor_zero]; exact hk.sub _ ⟨rfl, rfl, rfl, rfl, rfl, trivial⟩) | (rw [flip, if_pos hneg]; exact hk.sub _ ⟨rfl, rfl, rfl, rfl, rfl, trivial⟩), hB, hCC, hown⟩)
        · have hj : j = nb (mag n₀) := by have := of_decide_eq_false hb; omega
          subst hj
          rw [digs_len_take] at hown
          have hl : (encI n₀).length = 1 + nb (mag n₀) := length_encI n₀
          refine wp_exit (hK12 _ _ ?_)
          refine wp_seq_k fun K20 hK20 => ?_
          refine wp_region_lit ?_
          refine ls hk rfl rfl rfl (e_move hk rfl _) fun a hk => ?_
          refine ls hk rfl rfl rfl (e_assign hk rfl _) fun a hk => ?_
          refine lnil (hK20 _ _ ?_)
          refine wp_ret ?_
          rw [← hl] at hk hown
          exact ret1 hk rfl rfl ⟨ad6, c6, rfl, own_mono hown hB0.size, ext_trans hB0 hB⟩
      refine wp_seq_k fun K21 hK21 => ?_
      refine wp_region_lit ?_
      refine ls hk rfl rfl rfl (e_move hk rfl _) fun a hk => ?_
      refine ls hk rfl rfl rfl (e_geq hk rfl rfl rfl _) fun a hk => ?_
      refine lnil (hK21 _ _ ?_)
      refine cdB hk rfl (fun hb => ?_) (fun hb => ?_)
      · have hneg : ¬ n₀ < 0 := by have := of_decide_eq_true hb; omega
        refine wp_region_lit ?_
        refine ls hk rfl rfl rfl (e_move hk rfl _) fun a hk => ?_
        refine ls hk rfl rfl rfl (e_move hk rfl _) fun a hk => ?_
        refine ls hk rfl rfl rfl (e_add hk rfl rfl (i64 (by omega) (by omega)) _) fun a hk => ?_
        refine ls hk rfl rfl rfl (e_conv hk rfl Tryd.underlying3 Tryd.underlying5 (i_b _) _) fun a hk => ?_
        rw [head_pos n₀ hneg] at hk
        refine la hk rfl (a_lit (cells := #[B (UInt8.ofNat (128 + nb (mag n₀)) ^^^ flip n₀)]) (zv := .int .u8 0) (sz := 1) (by_ := 1) hk rfl rfl Tryd.underlying22 el5 (by decide) (by decide) (lit1 _ _ rfl) rfl fun a w bl hk GL => ?_)
        have hB := ext_trans hB GL.ext
        have hown := own_ext hown GL.ext
        have hRd := lit_byte _ GL
        have hCC := Nat.le_trans hCC GL.ext.size
        clear GL
        refine la hk rfl (a_app hk rfl rfl hown rfl hRd (bytes_one _) Tryd.underlying22 el5 rfl (by decide) (by omega) (by omega) hCC fun a w v hk hown' hKp => ?_)
        have hB := kept_below hKp hB hown (Nat.le_refl _) hCC
        have hCC := Nat.le_trans hCC hKp.size
        clear hown hRd hKp
        obtain ⟨ad, c, rfl, _, _⟩ := Rd.of_own hown'
        have hown : w.ownsRow w1.heap.size 5 1 (.slice ad (0 + 1) c) (0 + 1) (([UInt8.ofNat (128 + nb (mag n₀)) ^^^ flip n₀]).map B) := by
          exact hown'
        clear hown'
        refine ls hk rfl rfl rfl (e_assign hk rfl _) fun a hk => ?_
        refine lnil (hJ11 _ _ ⟨_, _, hk.sub _ ⟨rfl, rfl, rfl, rfl, trivial⟩, hB, hCC, hown⟩)
      · have hneg : n₀ < 0 := by have := of_decide_eq_false hb; omega
        refine wp_region_lit ?_
        refine ls hk rfl rfl rfl (e_move hk rfl _) fun a hk => ?_
        refine ls hk rfl rfl rfl (e_move hk rfl _) fun a hk => ?_
        refine ls hk rfl rfl rfl (e_sub hk rfl rfl (i64 (by omega) (by omega)) _) fun a hk => ?_
        refine ls hk rfl rfl rfl (e_conv hk rfl Tryd.underlying3 Tryd.underlying5 (i_b _) _) fun a hk => ?_
        rw [head_neg n₀ hneg] at hk
        refine la hk rfl (a_lit (cells := #[B (UInt8.ofNat (128 + nb (mag n₀)) ^^^ flip n₀)]) (zv := .int .u8 0) (sz := 1) (by_ := 1) hk rfl rfl Tryd.underlying22 el5 (by decide) (by decide) (lit1 _ _ rfl) rfl fun a w bl hk GL => ?_)
        have hB := ext_trans hB GL.ext
        have hown := own_ext hown GL.ext
        have hRd := lit_byte _ GL
        have hCC := Nat.le_trans hCC GL.ext.size
        clear GL
        refine la hk rfl (a_app hk rfl rfl hown rfl hRd (bytes_one _) Tryd.underlying22 el5 rfl (by decide) (by omega) (by omega) hCC fun a w v hk hown' hKp => ?_)
        have hB := kept_below hKp hB hown (Nat.le_refl _) hCC
        have hCC := Nat.le_trans hCC hKp.size
        clear hown hRd hKp
        obtain ⟨ad, c, rfl, _, _⟩ := Rd.of_own hown'
        have hown : w.ownsRow w1.heap.size 5 1 (.slice ad (0 + 1) c) (0 + 1) (([UInt8.ofNat (128 + nb (mag n₀)) ^^^ flip n₀]).map B) := by
          exact hown'
        clear hown'
        refine ls hk rfl rfl rfl (e_assign hk rfl _) fun a hk => ?_
        refine lnil (hJ11 _ _ ⟨_, _, hk.sub _ ⟨rfl, rfl, rfl, rfl, trivial⟩, hB, hCC, hown⟩)
  refine wp_seq_k fun K22 hK22 => ?_
  refine wp_region_lit ?_
  refine ls hk rfl rfl rfl (e_move hk rfl _) fun a hk => ?_
  refine ls hk rfl rfl rfl (e_lss hk rfl rfl rfl _) fun a hk => ?_
  refine lnil (hK22 _ _ ?_)
  refine cdB hk rfl (fun hb => ?_) (fun hb => ?_)
  · have hneg : n₀ < 0 := by have := of_decide_eq_true hb; omega
    refine wp_region_lit ?_
    refine ls hk rfl rfl rfl (e_move hk rfl _) fun a hk => ?_
    refine ls hk rfl rfl rfl (e_sub (q := ((mag n₀ : Nat) : Int)) hk rfl rfl (by rw [i64 (by omega) (by omega)]; unfold mag; rw [if_pos hneg]; omega) _) fun a hk => ?_
    refine ls hk rfl rfl rfl (e_assign hk rfl _) fun a hk => ?_
    refine lnil (hJ3 _ _ ⟨by first | exact hk.sub _ ⟨rfl, rfl, trivial⟩ | exact hk.sub _ ⟨rfl, by rw [show ((mag n₀ : Nat) : Int) = n₀ by unfold mag; rw [if_neg hneg]; omega]; rfl, trivial⟩, hB⟩)
  · have hneg : ¬ n₀ < 0 := by have := of_decide_eq_false hb; omega
    refine wp_skip (hJ3 _ _ ⟨by first | exact hk.sub _ ⟨rfl, rfl, trivial⟩ | exact hk.sub _ ⟨rfl, by rw [show ((mag n₀ : Nat) : Int) = n₀ by unfold mag; rw [if_neg hneg]; omega]; rfl, trivial⟩, hB⟩)

end Go.Proofs.YtidfbboalbchiaaDoor
