/- Part 5 of the texts that a claim's last texts stand on: A19, A20, UpB, UpC, A24, A25. Conditions: those that each theorem names. -/
import Derived.Test.YtidfbboalbchiaaDoorT4
import Derived.Test.YtidfbboalbchiaaDoorT3
import Derived.Test.YtidfbboalbchiaaDoorT1
import Derived.SliceStrings
namespace Go.Proofs.YtidfbboalbchiaaDoor
open Go Go.RowKit

/-- The i-th digit of m. -/
def dg (m i : Nat) : UInt8 := UInt8.ofNat (m / 256 ^ i % 256)
def dgs (m k : Nat) : List UInt8 := (List.range k).map (dg m)
theorem dgs_succ (m k : Nat) : dgs m (k + 1) = dgs m k ++ [dg m k] := by
  simp [dgs, List.range_succ]
theorem length_dgs (m k : Nat) : (dgs m k).length = k := by simp [dgs]
theorem dgs_get (m k i : Nat) (h : i < k) : (dgs m k).getD i 0 = dg m i := by simp [dgs, h]
theorem div_pow (m k : Nat) : m / 256 ^ k / 256 = m / 256 ^ (k + 1) := by rw [Nat.div_div_eq_div_mul, Nat.pow_succ]
theorem head_pos (n : Int) (h : ¬ n < 0) : byteOf (128 + (nb (mag n) : Int)) = UInt8.ofNat (128 + nb (mag n)) ^^^ flip n := by
  rw [show (128 : Int) + (nb (mag n) : Int) = ((128 + nb (mag n) : Nat) : Int) by omega, byteOf_nat, flip, if_neg h]
  simp
theorem neg_byte (x : UInt8) : UInt8.ofNat (255 - x.toNat) = x ^^^ 255 := by
  have : ∀ x : Fin 256, UInt8.ofNat (255 - x.val) = UInt8.ofNat x.val ^^^ 255 := by decide +kernel
  have h := this ⟨x.toNat, x.toNat_lt⟩
  simpa using h
theorem head_neg (n : Int) (h : n < 0) : byteOf (127 - (nb (mag n) : Int)) = UInt8.ofNat (128 + nb (mag n)) ^^^ flip n := by
  have h8 := nb_le (mag n)
  rw [show (127 : Int) - (nb (mag n) : Int) = ((127 - nb (mag n) : Nat) : Int) by omega, byteOf_nat, flip, if_pos h, ← neg_byte]
  congr 1
  have e : (UInt8.ofNat (128 + nb (mag n))).toNat = (128 + nb (mag n)) % 2 ^ 8 := rfl
  omega
/-- A byte, taken from 255. -/
theorem b_neg (x : UInt8) : IntKind.u8.wrap (255 - (x.toNat : Int)) = ((x ^^^ 255).toNat : Int) := by
  rw [← neg_byte, wrap8u]
  have h := x.toNat_lt
  have e : (UInt8.ofNat (255 - x.toNat)).toNat = (255 - x.toNat) % 2 ^ 8 := rfl
  omega
theorem digs_len_take (m : Nat) (fl : UInt8) : (digs m fl).take (nb m) = digs m fl := List.take_of_length_le (by rw [length_digs]; omega)

set_option maxRecDepth 4000 in
set_option maxHeartbeats 1000000 in
theorem c118 (n₀ : Int) (w0 : World) (h0 : -9223372036854775808 ≤ n₀) (h1 : n₀ ≤ 9223372036854775807) :
    Calls Tryd.prog 118 #[I n₀] w0 fun e w' => ∃ ad c, e = .returned (.slice ad (encI n₀).length c) ∧ w'.ownsRow w0.heap.size 5 1 (.slice ad (encI n₀).length c) (encI n₀).length ((encI n₀).map B) ∧ Ext w0 w' := by
  have hm63 : mag n₀ ≤ 9223372036854775807 := by unfold mag; split <;> omega
  have hm64 : mag n₀ < 18446744073709551616 := by omega
  refine start 59 Tryd.func118 rfl rfl rfl fun a hk => ?_
  have hB : Ext w0 w0 := Below.refl _ _
  refine wp_seq_k fun K1 hK1 => ?_
  refine wp_region_lit ?_
  refine ls hk rfl rfl rfl (e_assign hk rfl _) fun a hk => ?_
  refine lnil (hK1 _ _ ?_)
  refine wp_seq_k fun K2 hK2 => ?_
  refine wp_region_lit ?_
  refine ls hk rfl rfl rfl (e_move hk rfl _) fun a hk => ?_
  refine ls hk rfl rfl rfl (e_assign hk rfl _) fun a hk => ?_
  refine lnil (hK2 _ _ ?_)
  refine wp_seq_k fun K3 hK3 => ?_
  have hJ3 : ∀ (a : Act) (w : World), (Kn a 59 [(0, I n₀), (3, I (mag n₀ : Nat))] ∧ (Ext w0 w)) → K3 a w := by
    clear hk hB
    intro a w ⟨hk, hB⟩
    refine hK3 _ _ ?_
    refine wp_seq_k fun K4 hK4 => ?_
    refine wp_region_lit ?_
    refine ls hk rfl rfl rfl (e_assign hk rfl _) fun a hk => ?_
    refine lnil (hK4 _ _ ?_)
    refine wp_seq_k fun K5 hK5 => ?_
    refine wp_block ?_
    refine loopN (fun n a w => ∃ (k : Nat) (ad : Option Addr) (c : Nat), n = nb (mag n₀) - k ∧ k ≤ nb (mag n₀) ∧ Kn a 59 [(0, I n₀), (3, I (mag n₀ / 256 ^ k : Nat)), (4, .slice ad k c)] ∧ Ext w0 w ∧ w.ownsRow w0.heap.size 5 1 (.slice ad (k) c) (k) ((dgs (mag n₀) k).map B)) (nb (mag n₀)) ?_ fun n a w hI => ?_
    · exact ⟨0, none, 0, rfl, Nat.zero_le _, hk.sub _ ⟨rfl, by rw [Nat.pow_zero, Nat.div_one]; rfl, rfl, trivial⟩, hB, own_nil⟩
    clear hB
    obtain ⟨k, ad, c, rfl, hkn, hk, hB, hown⟩ := hI
    have hn8 := nb_le (mag n₀)
    have hCC := hB.size
    have hdl : mag n₀ / 256 ^ k ≤ mag n₀ := Nat.div_le_self _ _
    refine wp_seq_k fun K6 hK6 => ?_
    refine wp_seq_k fun K7 hK7 => ?_
    refine wp_region_lit ?_
    refine ls hk rfl rfl rfl (e_move hk rfl _) fun a hk => ?_
    refine ls hk rfl rfl rfl (e_gtr hk rfl rfl rfl _) fun a hk => ?_
    refine lnil (hK7 _ _ ?_)
    refine cdB hk rfl (fun hb => ?_) (fun hb => ?_)
    · have hpos : 0 < mag n₀ / 256 ^ k := by
        have h := of_decide_eq_true hb
        generalize mag n₀ / 256 ^ k = q at h; omega
      have hlt : k < nb (mag n₀) := nb_ge_of (mag n₀) k hm64 (Nat.div_pos_iff.1 hpos).2
      refine wp_skip (hK6 _ _ ?_)
      refine wp_block ?_
      refine wp_seq_k fun K8 hK8 => ?_
      refine wp_region_lit ?_
      refine ls hk rfl rfl rfl (e_move hk rfl _) fun a hk => ?_
      refine ls hk rfl rfl rfl (e_move hk rfl _) fun a hk => ?_
      refine ls hk rfl rfl rfl (e_rem (q := ((mag n₀ / 256 ^ k % 256 : Nat) : Int)) hk rfl rfl (by decide) (i_rem (mag n₀ / 256 ^ k) 256) _) fun a hk => ?_
      refine ls hk rfl rfl rfl (e_conv hk rfl Tryd.underlying3 Tryd.underlying5 (i_b _) _) fun a hk => ?_
      rw [byteOf_nat] at hk
      refine la hk rfl (a_lit (cells := #[B (dg (mag n₀) k)]) (zv := .int .u8 0) (sz := 1) (by_ := 1) hk rfl rfl Tryd.underlying22 el5 (by decide) (by decide) (lit1 _ _ rfl) rfl fun a w bl hk GL => ?_)
      have hB := ext_trans hB GL.ext
      have hown := own_ext hown GL.ext
      have hRd := lit_byte _ GL
      have hCC := Nat.le_trans hCC GL.ext.size
      clear GL
      refine la hk rfl (a_app hk rfl rfl hown rfl hRd (bytes_one _) Tryd.underlying22 el5 rfl (by decide) (by omega) (by omega) hCC fun a w v hk hown' hKp => ?_)
      have hB := kept_below hKp hB hown (Nat.le_refl _) hCC
      have hCC := Nat.le_trans hCC hKp.size
      clear hown hRd hKp
      obtain ⟨ad, c, rfl, _, _⟩ := Rd.of_own hown'
      have hown : w.ownsRow w0.heap.size 5 1 (.slice ad (k + 1) c) (k + 1) ((dgs (mag n₀) (k + 1)).map B) := by
        rw [dgs_succ, List.map_append]; exact hown'
      clear hown'
      refine ls hk rfl rfl rfl (e_assign hk rfl _) fun a hk => ?_
      refine lnil (hK8 _ _ ?_)
      refine wp_region_lit ?_
      refine ls hk rfl rfl rfl (e_move hk rfl _) fun a hk => ?_
      refine ls hk rfl rfl rfl (e_quo (q := ((mag n₀ / 256 ^ k / 256 : Nat) : Int)) hk rfl rfl (by decide) (by rw [show ((mag n₀ / 256 ^ k : Nat) : Int).tdiv 256 = ((mag n₀ / 256 ^ k / 256 : Nat) : Int) from i_quo (mag n₀ / 256 ^ k) 256]; exact i64 (by omega) (by generalize mag n₀ / 256 ^ k = q at hdl ⊢; omega)) _) fun a hk => ?_
      refine ls hk rfl rfl rfl (e_assign hk rfl _) fun a hk => ?_
      refine lnil (show ∃ m : Nat, m < _ ∧ _ from ⟨nb (mag n₀) - (k + 1), by omega, k + 1, _, _, rfl, by omega, hk.sub _ ⟨rfl, by rw [← div_pow]; rfl, rfl, trivial⟩, hB, hown⟩)
    · have hz : mag n₀ / 256 ^ k = 0 := by
        have h := of_decide_eq_false hb
        generalize mag n₀ / 256 ^ k = q at h; omega
      have hke : k = nb (mag n₀) := by
        have := nb_le_of (mag n₀) k ((Nat.div_eq_zero_iff_lt (Nat.pow_pos (by decide))).1 hz)
        omega
      clear hz hb
      subst hke
      refine wp_exit (hK5 _ _ ?_)
      refine wp_seq_k fun K9 hK9 => ?_
      obtain ⟨w1, rfl⟩ : ∃ w1, w1 = w := ⟨w, rfl⟩
      have hB0 := hB
      clear hB hCC
      have hB : Ext w1 w1 := Below.refl _ _
      have hCC : w1.heap.size ≤ w1.heap.size := Nat.le_refl _
      obtain ⟨ad4, c4, hv, _, hR4⟩ := Rd.of_own hown
      cases hv
      clear hown hdl
      have hown : w1.ownsRow w1.heap.size 5 1 (.slice none 0 0) 0 (([] : List UInt8).map B) := own_nil
      refine wp_region_lit ?_
      refine ls hk rfl rfl rfl (e_move hk rfl _) fun a hk => ?_
      refine ls hk rfl rfl rfl (e_lenS hk rfl Tryd.underlying22 _) fun a hk => ?_
      refine ls hk rfl rfl rfl (e_assign hk rfl _) fun a hk => ?_
      refine lnil (hK9 _ _ ?_)
      refine wp_seq_k fun K10 hK10 => ?_
      refine wp_region_lit ?_
      refine ls hk rfl rfl rfl (e_assign hk rfl _) fun a hk => ?_
      refine lnil (hK10 _ _ ?_)
      refine wp_seq_k fun K11 hK11 => ?_
      have hJ11 : ∀ (a : Act) (w : World), (∃ (ad6 : Option Addr) (c6 : Nat), Kn a 59 [(0, I n₀), (4, .slice ad (nb (mag n₀)) c), (5, I (nb (mag n₀))), (6, .slice ad6 1 c6)] ∧ (Ext w1 w) ∧ (w1.heap.size ≤ w.heap.size) ∧ (w.ownsRow w1.heap.size 5 1 (.slice ad6 (1) c6) (1) (([UInt8.ofNat (128 + nb (mag n₀)) ^^^ flip n₀]).map B))) → K11 a w := by
        clear hk hB
        intro a w ⟨ad6, c6, hk, hB, hCC, hown⟩
        refine hK11 _ _ ?_
        refine wp_seq_k fun K12 hK12 => ?_
        refine wp_seq_k fun K13 hK13 => ?_
        refine wp_region_lit ?_
        refine ls hk rfl rfl rfl (e_move hk rfl _) fun a hk => ?_
        refine ls hk rfl rfl rfl (e_sub hk rfl rfl (i64 (by omega) (by omega)) _) fun a hk => ?_
        refine ls hk rfl rfl rfl (e_assign hk rfl _) fun a hk => ?_
        refine lnil (hK13 _ _ ?_)
        refine wp_block ?_
        refine loopN (fun n a w => ∃ j : Nat, ∃ (ad6 : Option Addr) (c6 : Nat), n = (nb (mag n₀)) - j ∧ j ≤ (nb (mag n₀)) ∧ Kn a 59 [(0, I n₀), (4, .slice ad (nb (mag n₀)) c), (6, .slice ad6 (1 + j) c6), (7, I (((nb (mag n₀) : Nat) : Int) - 1 - ((j : Nat) : Int)))] ∧ (Ext w1 w) ∧ (w1.heap.size ≤ w.heap.size) ∧ (w.ownsRow w1.heap.size 5 1 (.slice ad6 (1 + j) c6) (1 + j) (((UInt8.ofNat (128 + nb (mag n₀)) ^^^ flip n₀) :: (digs (mag n₀) (flip n₀)).take j).map B))) ((nb (mag n₀)) - 0) ?_ fun n a w hI => ?_
        · exact ⟨0, _, _, rfl, by omega, hk.sub _ ⟨rfl, rfl, rfl, by rw [show ((nb (mag n₀) : Nat) : Int) - 1 - ((0 : Nat) : Int) = ((nb (mag n₀) : Nat) : Int) - 1 by omega]; rfl, trivial⟩, hB, hCC, hown⟩
        clear hk hB hCC hown
        obtain ⟨j, ad6, c6, rfl, hi_le, hk, hB, hCC, hown⟩ := hI
        refine wp_seq_k fun K14 hK14 => ?_
        refine wp_seq_k fun K15 hK15 => ?_
        refine wp_region_lit ?_
        refine ls hk rfl rfl rfl (e_move hk rfl _) fun a hk => ?_
        refine ls hk rfl rfl rfl (e_geq hk rfl rfl rfl _) fun a hk => ?_
        refine lnil (hK15 _ _ ?_)
        refine cdB hk rfl (fun hb => ?_) (fun hb => ?_)
        · have hj : j < nb (mag n₀) := by have := of_decide_eq_true hb; omega
          refine wp_skip (hK14 _ _ ?_)
          refine wp_seq_k fun K16 hK16 => ?_
          refine wp_block ?_
          refine wp_seq_k fun K17 hK17 => ?_
          obtain ⟨b4, o4, rfl, hc4⟩ := (hR4.ext hB).2.2 (nb (mag n₀) - 1 - j) (B (dg (mag n₀) (nb (mag n₀) - 1 - j))) (by rw [List.getElem?_map, dgs, List.getElem?_map, List.getElem?_range (by omega)]; rfl)
          refine wp_region_lit ?_
          refine ls hk rfl rfl rfl (e_move hk rfl _) fun a hk => ?_
          refine ls hk rfl rfl rfl (e_move hk rfl _) fun a hk => ?_
          refine ls hk rfl rfl rfl (e_idxS1 (nb (mag n₀) - 1 - j) hk rfl rfl Tryd.underlying22 sz5 (by omega) (by omega) _) fun a hk => ?_
          refine ls hk rfl rfl rfl (r_load1 hk rfl Tryd.underlying5 rfl hc4) fun a hk => ?_
          refine ls hk rfl rfl rfl (e_assign hk rfl _) fun a hk => ?_
          refine lnil (hK17 _ _ ?_)
          refine wp_seq_k fun K18 hK18 => ?_
          have hJ18 : ∀ (a : Act) (w : World), (Kn a 59 [(0, I n₀), (4, .slice (some ⟨b4, o4, none⟩) (nb (mag n₀)) c), (6, .slice ad6 (1 + j) c6), (7, I (((nb (mag n₀) : Nat) : Int) - 1 - ((j : Nat) : Int))), (8, B (dg (mag n₀) (nb (mag n₀) - 1 - j) ^^^ flip n₀))] ∧ (Ext w1 w) ∧ (w1.heap.size ≤ w.heap.size) ∧ (w.ownsRow w1.heap.size 5 1 (.slice ad6 (1 + j) c6) (1 + j) (((UInt8.ofNat (128 + nb (mag n₀)) ^^^ flip n₀) :: (digs (mag n₀) (flip n₀)).take j).map B))) → K18 a w := by
            clear hk hB hCC hown
            intro a w ⟨hk, hB, hCC, hown⟩
            refine hK18 _ _ ?_
            refine wp_region_lit ?_
            refine ls hk rfl rfl rfl (e_move hk rfl _) fun a hk => ?_
            refine ls hk rfl rfl rfl (e_move hk rfl _) fun a hk => ?_
            refine la hk rfl (a_lit (cells := #[B (dg (mag n₀) (nb (mag n₀) - 1 - j) ^^^ flip n₀)]) (zv := .int .u8 0) (sz := 1) (by_ := 1) hk rfl rfl Tryd.underlying22 el5 (by decide) (by decide) (lit1 _ _ rfl) rfl fun a w bl hk GL => ?_)
            have hB := ext_trans hB GL.ext
            have hown := own_ext hown GL.ext
            have hRd := lit_byte _ GL
            have hCC := Nat.le_trans hCC GL.ext.size
            clear GL
            refine la hk rfl (a_app hk rfl rfl hown rfl hRd (bytes_one _) Tryd.underlying22 el5 rfl (by decide) (by omega) (by omega) hCC fun a w v hk hown' hKp => ?_)
            have hB := kept_below hKp hB hown (Nat.le_refl _) hCC
            have hCC := Nat.le_trans hCC hKp.size
            clear hown hRd hKp
            obtain ⟨ad7, c7, rfl, _, _⟩ := Rd.of_own hown'
            rw [show 1 + j + 1 = 1 + (j + 1) by omega] at hk hown'
            have hown : w.ownsRow w1.heap.size 5 1 (.slice ad7 (1 + (j + 1)) c7) (1 + (j + 1)) (((UInt8.ofNat (128 + nb (mag n₀)) ^^^ flip n₀) :: (digs (mag n₀) (flip n₀)).take (j + 1)).map B) := by
              rw [digs_take _ _ _ hj]; simpa [dg] using hown'
            clear hown'
            refine ls hk rfl rfl rfl (e_assign hk rfl _) fun a hk => ?_
            refine lnil (hK16 _ _ ?_)
            refine wp_region_lit ?_
            refine ls hk rfl rfl rfl (e_move hk rfl _) fun a hk => ?_
            refine ls hk rfl rfl rfl (e_sub hk rfl rfl (i64 (by omega) (by omega)) _) fun a hk => ?_
            refine ls hk rfl rfl rfl (e_assign hk rfl _) fun a hk => ?_
            refine lnil (show ∃ m : Nat, m < _ ∧ _ from ⟨(nb (mag n₀)) - (j + 1), by omega, j + 1, _, _, rfl, by omega, hk.sub _ ⟨rfl, rfl, rfl, by rw [show ((nb (mag n₀) : Nat) : Int) - 1 - ((j + 1 : Nat) : Int) = ((nb (mag n₀) : Nat) : Int) - 1 - ((j : Nat) : Int) - 1 by omega]; rfl, trivial⟩, hB, hCC, hown⟩)
          refine wp_seq_k fun K19 hK19 => ?_
          refine wp_region_lit ?_
          refine ls hk rfl rfl rfl (e_move hk rfl _) fun a hk => ?_
          refine ls hk rfl rfl rfl (e_lss hk rfl rfl rfl _) fun a hk => ?_
          refine lnil (hK19 _ _ ?_)
          refine cdB hk rfl (fun hb => ?_) (fun hb => ?_)
          · have hneg : n₀ < 0 := by have := of_decide_eq_true hb; omega
            refine wp_region_lit ?_
            refine ls hk rfl rfl rfl (e_move hk rfl _) fun a hk => ?_
            refine ls hk rfl rfl rfl (e_sub hk rfl rfl (b_neg _) _) fun a hk => ?_
            refine ls hk rfl rfl rfl (e_assign hk rfl _) fun a hk => ?_
            refine lnil (hJ18 _ _ ⟨by first | exact hk.sub _ ⟨rfl, rfl, rfl, rfl, rfl, trivial⟩ | (rw [flip, if_neg hneg, UInt8.xor_zero]; exact hk.sub _ ⟨rfl, rfl, rfl, rfl, rfl, trivial⟩) | (rw [flip, if_pos hneg]; exact hk.sub _ ⟨rfl, rfl, rfl, rfl, rfl, trivial⟩), hB, hCC, hown⟩)
          · have hneg : ¬ n₀ < 0 := by have := of_decide_eq_false hb; omega
            refine wp_skip (hJ18 _ _ ⟨by first | exact hk.sub _ ⟨rfl, rfl, rfl, rfl, rfl, trivial⟩ | (rw [flip, if_neg hneg, UInt8.xor_zero]; exact hk.sub _ ⟨rfl, rfl, rfl, rfl, rfl, trivial⟩) | (rw [flip, if_pos hneg]; exact hk.sub _ ⟨rfl, rfl, rfl, rfl, rfl, trivial⟩), hB, hCC, hown⟩)
        · have hj : j = nb (mag n₀) := by have := of_decide_eq_false hb; omega
          subst hj
          rw [digs_len_take] at hown
          have hl : (encI n₀).length = 1 + nb (mag n₀) := length_encI n₀
          refine wp_exit (hK12 _ _ ?_)
          refine wp_seq_k fun K20 hK20 => ?_
          refine wp_region_lit ?_
          refine ls hk rfl rfl rfl (e_move hk rfl _) fun a hk => ?_
          refine ls hk rfl rfl rfl (e_assign hk rfl _) fun a hk => ?_
          refine lnil (hK20 _ _ ?_)
          refine wp_ret ?_
          rw [← hl] at hk hown
          exact ret1 hk rfl rfl ⟨ad6, c6, rfl, own_mono hown hB0.size, ext_trans hB0 hB⟩
      refine wp_seq_k fun K21 hK21 => ?_
      refine wp_region_lit ?_
      refine ls hk rfl rfl rfl (e_move hk rfl _) fun a hk => ?_
      refine ls hk rfl rfl rfl (e_geq hk rfl rfl rfl _) fun a hk => ?_
      refine lnil (hK21 _ _ ?_)
      refine cdB hk rfl (fun hb => ?_) (fun hb => ?_)
      · have hneg : ¬ n₀ < 0 := by have := of_decide_eq_true hb; omega
        refine wp_region_lit ?_
        refine ls hk rfl rfl rfl (e_move hk rfl _) fun a hk => ?_
        refine ls hk rfl rfl rfl (e_move hk rfl _) fun a hk => ?_
        refine ls hk rfl rfl rfl (e_add hk rfl rfl (i64 (by omega) (by omega)) _) fun a hk => ?_
        refine ls hk rfl rfl rfl (e_conv hk rfl Tryd.underlying3 Tryd.underlying5 (i_b _) _) fun a hk => ?_
        rw [head_pos n₀ hneg] at hk
        refine la hk rfl (a_lit (cells := #[B (UInt8.ofNat (128 + nb (mag n₀)) ^^^ flip n₀)]) (zv := .int .u8 0) (sz := 1) (by_ := 1) hk rfl rfl Tryd.underlying22 el5 (by decide) (by decide) (lit1 _ _ rfl) rfl fun a w bl hk GL => ?_)
        have hB := ext_trans hB GL.ext
        have hown := own_ext hown GL.ext
        have hRd := lit_byte _ GL
        have hCC := Nat.le_trans hCC GL.ext.size
        clear GL
        refine la hk rfl (a_app hk rfl rfl hown rfl hRd (bytes_one _) Tryd.underlying22 el5 rfl (by decide) (by omega) (by omega) hCC fun a w v hk hown' hKp => ?_)
        have hB := kept_below hKp hB hown (Nat.le_refl _) hCC
        have hCC := Nat.le_trans hCC hKp.size
        clear hown hRd hKp
        obtain ⟨ad, c, rfl, _, _⟩ := Rd.of_own hown'
        have hown : w.ownsRow w1.heap.size 5 1 (.slice ad (0 + 1) c) (0 + 1) (([UInt8.ofNat (128 + nb (mag n₀)) ^^^ flip n₀]).map B) := by
          exact hown'
        clear hown'
        refine ls hk rfl rfl rfl (e_assign hk rfl _) fun a hk => ?_
        refine lnil (hJ11 _ _ ⟨_, _, hk.sub _ ⟨rfl, rfl, rfl, rfl, trivial⟩, hB, hCC, hown⟩)
      · have hneg : n₀ < 0 := by have := of_decide_eq_false hb; omega
        refine wp_region_lit ?_
        refine ls hk rfl rfl rfl (e_move hk rfl _) fun a hk => ?_
        refine ls hk rfl rfl rfl (e_move hk rfl _) fun a hk => ?_
        refine ls hk rfl rfl rfl (e_sub hk rfl rfl (i64 (by omega) (by omega)) _) fun a hk => ?_
        refine ls hk rfl rfl rfl (e_conv hk rfl Tryd.underlying3 Tryd.underlying5 (i_b _) _) fun a hk => ?_
        rw [head_neg n₀ hneg] at hk
        refine la hk rfl (a_lit (cells := #[B (UInt8.ofNat (128 + nb (mag n₀)) ^^^ flip n₀)]) (zv := .int .u8 0) (sz := 1) (by_ := 1) hk rfl rfl Tryd.underlying22 el5 (by decide) (by decide) (lit1 _ _ rfl) rfl fun a w bl hk GL => ?_)
        have hB := ext_trans hB GL.ext
        have hown := own_ext hown GL.ext
        have hRd := lit_byte _ GL
        have hCC := Nat.le_trans hCC GL.ext.size
        clear GL
        refine la hk rfl (a_app hk rfl rfl hown rfl hRd (bytes_one _) Tryd.underlying22 el5 rfl (by decide) (by omega) (by omega) hCC fun a w v hk hown' hKp => ?_)
        have hB := kept_below hKp hB hown (Nat.le_refl _) hCC
        have hCC := Nat.le_trans hCC hKp.size
        clear hown hRd hKp
        obtain ⟨ad, c, rfl, _, _⟩ := Rd.of_own hown'
        have hown : w.ownsRow w1.heap.size 5 1 (.slice ad (0 + 1) c) (0 + 1) (([UInt8.ofNat (128 + nb (mag n₀)) ^^^ flip n₀]).map B) := by
          exact hown'
        clear hown'
        refine ls hk rfl rfl rfl (e_assign hk rfl _) fun a hk => ?_
        refine lnil (hJ11 _ _ ⟨_, _, hk.sub _ ⟨rfl, rfl, rfl, rfl, trivial⟩, hB, hCC, hown⟩)
  refine wp_seq_k fun K22 hK22 => ?_
  refine wp_region_lit ?_
  refine ls hk rfl rfl rfl (e_move hk rfl _) fun a hk => ?_
  refine ls hk rfl rfl rfl (e_lss hk rfl rfl rfl _) fun a hk => ?_
  refine lnil (hK22 _ _ ?_)
  refine cdB hk rfl (fun hb => ?_) (fun hb => ?_)
  · have hneg : n₀ < 0 := by have := of_decide_eq_true hb; omega
    refine wp_region_lit ?_
    refine ls hk rfl rfl rfl (e_move hk rfl _) fun a hk => ?_
    refine ls hk rfl rfl rfl (e_sub (q := ((mag n₀ : Nat) : Int)) hk rfl rfl (by rw [i64 (by omega) (by omega)]; unfold mag; rw [if_pos hneg]; omega) _) fun a hk => ?_
    refine ls hk rfl rfl rfl (e_assign hk rfl _) fun a hk => ?_
    refine lnil (hJ3 _ _ ⟨by first | exact hk.sub _ ⟨rfl, rfl, trivial⟩ | exact hk.sub _ ⟨rfl, by rw [show ((mag n₀ : Nat) : Int) = n₀ by unfold mag; rw [if_neg hneg]; omega]; rfl, trivial⟩, hB⟩)
  · have hneg : ¬ n₀ < 0 := by have := of_decide_eq_false hb; omega
    refine wp_skip (hJ3 _ _ ⟨by first | exact hk.sub _ ⟨rfl, rfl, trivial⟩ | exact hk.sub _ ⟨rfl, by rw [show ((mag n₀ : Nat) : Int) = n₀ by unfold mag; rw [if_neg hneg]; omega]; rfl, trivial⟩, hB⟩)

end Go.Proofs.YtidfbboalbchiaaDoor

namespace Go.Proofs.YtidfbboalbchiaaDoor
open Go Go.RowKit

/-- The first parts and the next one take no more room than all. -/
theorem msum0 : ∀ (ps : List (List UInt8)) (j : Nat) (x : List UInt8), ps[j]? = some x → (((ps.take j).map encB).flatten).length + (encB x).length ≤ ((ps.map encB).flatten).length := by
  intro ps
  induction ps with
  | nil => intro j x h; simp at h
  | cons y r ih =>
    intro j x h
    cases j with
    | zero =>
      obtain rfl : y = x := by simpa using h
      simp only [List.take_zero, List.map_nil, List.flatten_nil, List.length_nil, List.map_cons, List.flatten_cons, List.length_append]
      omega
    | succ j =>
      have := ih j x (by simpa using h)
      simp only [List.take_succ_cons, List.map_cons, List.flatten_cons, List.length_append]
      omega
theorem msum {b : UInt8} (ps : List (List UInt8)) (j : Nat) (x : List UInt8) (h : ps[j]? = some x) : (b :: ((ps.take j).map encB).flatten).length + (encB x).length ≤ 1 + ((ps.map encB).flatten).length := by
  have := msum0 ps j x h
  simp only [List.length_cons]; omega

set_option maxRecDepth 4000 in
set_option maxHeartbeats 1000000 in
theorem c91 (s : List UInt8) (w0 : World) (h : s.length ≤ 140737488351232) :
    Calls Tryd.prog 91 #[Str s] w0 fun e w' => ∃ ad c, e = .returned (.slice ad (encB s).length c) ∧ w'.ownsRow w0.heap.size 5 1 (.slice ad (encB s).length c) (encB s).length ((encB s).map B) ∧ Ext w0 w' := by
  refine start 9 Tryd.func91 rfl rfl rfl fun a hk => ?_
  have hB : Ext w0 w0 := Below.refl _ _
  refine wp_seq_k fun K1 hK1 => ?_
  refine wp_region_lit ?_
  refine ls hk rfl rfl rfl (e_assign hk rfl _) fun a hk => ?_
  refine lnil (hK1 _ _ ?_)
  refine wp_seq_k fun K2 hK2 => ?_
  refine wp_region_lit ?_
  refine ls hk rfl rfl rfl (e_move hk rfl _) fun a hk => ?_
  refine ls hk rfl rfl rfl (e_lenStr hk rfl Tryd.underlying9 _) fun a hk => ?_
  have hB0 := hB
  refine la hk rfl (a_call hk rfl rfl (c_fn hk rfl ok118) (c118 (s.length : Int) _ (by omega) (by omega)) ?_)
  rintro e w ⟨ad, c, rfl, hown, hE⟩
  refine ⟨_, rfl, fun a hk => ?_⟩
  have hB := ext_trans hB hE
  have hown := own_mono hown hB0.size
  clear hE
  refine ls hk rfl rfl rfl (e_move hk rfl _) fun a hk => ?_
  refine la hk rfl (a_bytes hk rfl rfl Tryd.underlying9 Tryd.underlying22 Tryd.underlying5 fun a w bb cc hk hgb hE hRb => ?_)
  have hown := own_ext hown hE
  have hB := ext_trans hB hE
  have hl8 := length_encI_le (s.length : Int)
  refine la hk rfl (a_app (news := s.map B) hk rfl rfl hown rfl hRb (bytes_one s) Tryd.underlying22 el5 rfl (by decide) (by omega) (by omega) hB.size fun a w v hk hown' hKp => ?_)
  have hB := kept_below hKp hB hown (Nat.le_refl _) hB.size
  clear hown hRb hKp
  obtain ⟨ad, c, rfl, _, _⟩ := Rd.of_own hown'
  have hl : (encI (s.length : Int)).length + s.length = (encB s).length := by rw [encB, List.length_append]
  rw [hl] at hk hown'
  have hown : w.ownsRow w0.heap.size 5 1 (.slice ad (encB s).length c) (encB s).length ((encB s).map B) := by rw [encB, List.map_append]; exact hown'
  refine ls hk rfl rfl rfl (e_assign hk rfl _) fun a hk => ?_
  refine lnil (hK2 _ _ ?_)
  refine wp_ret ?_
  exact ret1 hk rfl rfl ⟨ad, c, rfl, hown, hB⟩

set_option maxRecDepth 4000 in
set_option maxHeartbeats 1000000 in
theorem c42 (n₀ : Int) (ps : List (List UInt8)) (ad0 : Option Addr) (c0 : Nat) (w0 : World) (hR : Rs w0 ad0 ps.length c0 ps) (hn : ps.length ≤ 900) (hsum : ((ps.map encB).flatten).length ≤ 140737488352232) (hlen : ∀ x ∈ ps, x.length ≤ 140737488351232) :
    Calls Tryd.prog 42 #[I n₀, .slice ad0 ps.length c0] w0 fun e w' => ∃ ad c, e = .returned (.slice ad (ofIn n₀ ps).length c) ∧ w'.ownsRow w0.heap.size 5 1 (.slice ad (ofIn n₀ ps).length c) (ofIn n₀ ps).length ((ofIn n₀ ps).map B) ∧ Ext w0 w' := by
  refine start 24 Tryd.func42 rfl rfl rfl fun a hk => ?_
  have hB : Ext w0 w0 := Below.refl _ _
  refine wp_seq_k fun K1 hK1 => ?_
  refine wp_region_lit ?_
  refine ls hk rfl rfl rfl (e_assign hk rfl _) fun a hk => ?_
  refine lnil (hK1 _ _ ?_)
  refine wp_seq_k fun K2 hK2 => ?_
  refine wp_region_lit ?_
  refine ls hk rfl rfl rfl (e_move hk rfl _) fun a hk => ?_
  refine ls hk rfl rfl rfl (e_conv hk rfl Tryd.underlying3 Tryd.underlying5 (i_b _) _) fun a hk => ?_
  refine la hk rfl (a_lit (cells := #[B (byteOf n₀)]) (zv := .int .u8 0) (sz := 1) (by_ := 1) hk rfl rfl Tryd.underlying22 el5 (by decide) (by decide) (lit1 _ _ rfl) rfl fun a w bl hk GL => ?_)
  have hB := ext_trans hB GL.ext
  have hown : w.ownsRow w0.heap.size 5 1 (.slice (some ⟨bl, 0, none⟩) 1 1) 1 ([byteOf n₀].map B) := own_mono (lit_own (n := 1) (sz := 1) GL rfl (by decide)) (Nat.le_refl _)
  clear GL
  refine ls hk rfl rfl rfl (e_assign hk rfl _) fun a hk => ?_
  refine lnil (hK2 _ _ ?_)
  refine wp_seq_k fun K3 hK3 => ?_
  refine wp_seq_k fun K4 hK4 => ?_
  refine wp_region_lit ?_
  refine ls hk rfl rfl rfl (e_assign hk rfl _) fun a hk => ?_
  refine lnil (hK4 _ _ ?_)
  refine wp_block ?_
  refine loopN (fun n a w => ∃ j : Nat, ∃ (ad : Option Addr) (c : Nat), n = ps.length - j ∧ j ≤ ps.length ∧ Kn a 24 [(1, .slice ad0 ps.length c0), (5, .slice ad (byteOf n₀ :: ((ps.take (j)).map encB).flatten).length c), (6, I j)] ∧ (Ext w0 w) ∧ (w.ownsRow w0.heap.size 5 1 (.slice ad (byteOf n₀ :: ((ps.take (j)).map encB).flatten).length c) (byteOf n₀ :: ((ps.take (j)).map encB).flatten).length ((byteOf n₀ :: ((ps.take (j)).map encB).flatten).map B))) (ps.length - 0) ?_ fun n a w hI => ?_
  · exact ⟨0, some ⟨bl, 0, none⟩, 1, rfl, by omega, hk.sub _ ⟨rfl, rfl, rfl, trivial⟩, hB, hown⟩
  clear hk hB
  obtain ⟨j, ad, c, rfl, hi_le, hk, hB, hown⟩ := hI
  refine wp_seq_k fun K5 hK5 => ?_
  refine wp_seq_k fun K6 hK6 => ?_
  refine wp_region_lit ?_
  refine ls hk rfl rfl rfl (e_move hk rfl _) fun a hk => ?_
  refine ls hk rfl rfl rfl (e_move hk rfl _) fun a hk => ?_
  refine ls hk rfl rfl rfl (e_lenS hk rfl Tryd.underlying27 _) fun a hk => ?_
  refine ls hk rfl rfl rfl (e_lss hk rfl rfl rfl _) fun a hk => ?_
  refine lnil (hK6 _ _ ?_)
  refine cdB hk rfl (fun hb => ?_) (fun hb => ?_)
  · have hjl : j < ps.length := by have := of_decide_eq_true hb; omega
    obtain ⟨x, hx⟩ : ∃ x, ps[j]? = some x := ⟨_, List.getElem?_eq_getElem hjl⟩
    obtain ⟨bp, op, rfl, hcell⟩ := Rs.get (Rd.below hR hB (Nat.le_refl _)) j x hx
    have hxl := hlen x (List.mem_of_getElem? hx)
    have hml := msum (b := byteOf n₀) ps j x hx
    have hel := length_encB x
    refine wp_skip (hK5 _ _ ?_)
    refine wp_seq_k fun K7 hK7 => ?_
    refine wp_block ?_
    refine wp_region_lit ?_
    refine ls hk rfl rfl rfl (e_move hk rfl _) fun a hk => ?_
    refine ls hk rfl rfl rfl (e_move hk rfl _) fun a hk => ?_
    refine ls hk rfl rfl rfl (e_move hk rfl _) fun a hk => ?_
    refine ls hk rfl rfl rfl (e_idxS1 j hk rfl rfl Tryd.underlying27 sz9 rfl hjl _) fun a hk => ?_
    refine ls hk rfl rfl rfl (r_load1 (v := Str x) hk rfl Tryd.underlying9 rfl hcell) fun a hk => ?_
    refine la hk rfl (a_call hk rfl rfl (c_fn hk rfl ok91) (c91 x _ (by omega)) ?_)
    rintro e w ⟨ad2, c2, rfl, hown2, hE⟩
    refine ⟨_, rfl, fun a hk => ?_⟩
    have hB := ext_trans hB hE
    have hown := own_ext hown hE
    obtain ⟨_, _, hv, _, hR2⟩ := Rd.of_own hown2
    cases hv
    clear hE
    refine la hk rfl (a_app (news := (encB x).map B) hk rfl rfl hown rfl hR2 (bytes_one _) Tryd.underlying22 el5 rfl (by decide) (by omega) (by omega) hB.size fun a w v hk hown' hKp => ?_)
    have hB := kept_below hKp hB hown (Nat.le_refl _) hB.size
    clear hown hR2 hKp hown2
    obtain ⟨ad3, c3, rfl, _, _⟩ := Rd.of_own hown'
    rw [← List.length_append, List.cons_append, ← flat_take _ _ _ hx] at hk hown'
    rw [← List.map_append, List.cons_append, ← flat_take _ _ _ hx] at hown'
    have hown := hown'
    clear hown'
    refine ls hk rfl rfl rfl (e_assign hk rfl _) fun a hk => ?_
    refine lnil (hK7 _ _ ?_)
    refine wp_region_lit ?_
    refine ls hk rfl rfl rfl (e_move hk rfl _) fun a hk => ?_
    refine ls hk rfl rfl rfl (e_add hk rfl rfl (i64 (by omega) (by omega)) _) fun a hk => ?_
    refine ls hk rfl rfl rfl (e_assign hk rfl _) fun a hk => ?_
    refine lnil (show ∃ m : Nat, m < _ ∧ _ from ⟨ps.length - (j + 1), by omega, j + 1, _, _, rfl, by omega, hk.sub _ ⟨rfl, rfl, rfl, trivial⟩, hB, hown⟩)
  · have hjl : j = ps.length := by have := of_decide_eq_false hb; omega
    subst hjl
    rw [List.take_length] at hk hown
    refine wp_exit (hK3 _ _ ?_)
    refine wp_seq_k fun K8 hK8 => ?_
    refine wp_region_lit ?_
    refine ls hk rfl rfl rfl (e_move hk rfl _) fun a hk => ?_
    refine ls hk rfl rfl rfl (e_assign hk rfl _) fun a hk => ?_
    refine lnil (hK8 _ _ ?_)
    refine wp_ret ?_
    exact ret1 hk rfl rfl ⟨ad, c, rfl, hown, hB⟩

theorem byte_at (l : List UInt8) (i : Nat) (h : i < l.length) : (l.map B).toArray[0 + i]? = some (B (l.getD i 0)) := by simp [h]
/-- The first i of 16 bytes, the others zero. -/
def part16 (l : List UInt8) (i : Nat) : List UInt8 := l.take i ++ List.replicate (16 - i) 0
theorem length_part16 (l : List UInt8) (i : Nat) (hl : 16 ≤ l.length) (hi : i ≤ 16) : (part16 l i).length = 16 := by simp [part16]; omega
theorem part16_zero (l : List UInt8) : part16 l 0 = zD := by simp [part16, zD]
theorem part16_set (l : List UInt8) (i : Nat) (hl : 16 ≤ l.length) (hi : i < 16) : ((part16 l i).map B).toArray.setIfInBounds (0 + i) (B (l.getD i 0)) = ((part16 l (i + 1)).map B).toArray := by
  have e : part16 l i = l.take i ++ [0] ++ List.replicate (16 - (i + 1)) 0 := by
    rw [part16, show 16 - i = (16 - (i + 1)) + 1 by omega, List.replicate_succ]; simp
  have hi' : i < l.length := by omega
  rw [e, bytes_set _ _ _ _ _ (by simp; omega), part16, List.take_add_one, List.getElem?_eq_getElem hi']
  simp [List.getD_eq_getElem?_getD, hi']
theorem part16_all (l : List UInt8) : part16 l 16 = l.take 16 := by simp [part16]

set_option maxRecDepth 4000 in
set_option maxHeartbeats 1000000 in
theorem c74 (m : List UInt8) (ad0 : Option Addr) (c0 : Nat) (w0 : World) (hR : Rd w0 ad0 m.length c0 1 (m.map B)) (hGR : GR w0) (hl : m.length ≤ 140737488353232) :
    Calls Tryd.prog 74 #[.slice ad0 m.length c0] w0 fun e w' => e = .returned (D ((sha m).take 16)) ∧ Ext w0 w' := by
  refine start 19 Tryd.func74 rfl rfl rfl fun a hk => ?_
  have hB : Ext w0 w0 := Below.refl _ _
  refine wp_seq_k fun K1 hK1 => ?_
  refine wp_region_lit ?_
  refine la hk rfl (a_alloc hk rfl zr44 fun a w b2 hk G => ?_)
  have hg_b2 : w0.heap.size ≤ b2 := Nat.le_trans hB.size G.ge
  have hB := ext_trans hB G.ext
  have h_b2 := G.at_
  clear G
  refine lnil (hK1 _ _ ?_)
  refine wp_seq_k fun K2 hK2 => ?_
  refine wp_region_lit ?_
  refine ls hk rfl rfl rfl (e_move hk rfl _) fun a hk => ?_
  refine la hk rfl (a_call hk rfl rfl (c_fn hk rfl ok24) (c24 m ad0 c0 _ (hR.ext hB) (hGR.ext hB) hl) ?_)
  rintro e w ⟨rfl, hE⟩
  refine ⟨_, rfl, fun a hk => ?_⟩
  have h_b2 := ext_at hE h_b2
  have hB := ext_trans hB hE
  clear hE
  refine la hk rfl (a_alloc hk rfl zr24 fun a w b3 hk G => ?_)
  have n_b2_b3 : b2 ≠ b3 := G.ne h_b2
  have hg_b3 : w0.heap.size ≤ b3 := Nat.le_trans hB.size G.ge
  have h_b2 := ext_at G.ext h_b2
  have hB := ext_trans hB G.ext
  have h_b3 := G.at_
  clear G
  refine la hk rfl (a_storeB hk rfl rfl (bytes_oneA _) (by rw [sz24]; simp [length_sha]) h_b3 (by simp [length_sha, Value.cells]) fun a w hk W => ?_)
  have h_b2 := W.keep n_b2_b3 h_b2
  have hB := W.below hB hg_b3
  have h_b3 := W.at_
  clear W
  refine lnil (hK2 _ _ ?_)
  refine wp_seq_k fun K3 hK3 => ?_
  refine wp_region_lit ?_
  refine ls hk rfl rfl rfl (e_zero44 hk _) fun a hk => ?_
  refine la hk rfl (a_alloc hk rfl zr44 fun a w b4 hk G => ?_)
  have n_b2_b4 : b2 ≠ b4 := G.ne h_b2
  have n_b3_b4 : b3 ≠ b4 := G.ne h_b3
  have hg_b4 : w0.heap.size ≤ b4 := Nat.le_trans hB.size G.ge
  have h_b2 := ext_at G.ext h_b2
  have h_b3 := ext_at G.ext h_b3
  have hB := ext_trans hB G.ext
  have h_b4 := G.at_
  clear G
  refine la hk rfl (a_st44 hk rfl rfl rfl h_b4 rfl fun a w hk W => ?_)
  have h_b2 := W.keep n_b2_b4 h_b2
  have h_b3 := W.keep n_b3_b4 h_b3
  have hB := W.below hB hg_b4
  have h_b4 := W.at_
  clear W
  rw [← part16_zero (sha m)] at h_b4
  have hs : (sha m).length = 32 := length_sha m
  have hz2 : ∃ cs : Array Value, cs.size = 16 ∧ w.heap[b2]? = some (.cells cs 44 (0, 0)) := ⟨_, rfl, h_b2⟩
  clear h_b2
  obtain ⟨cs2, hz2, h_b2⟩ := hz2
  refine lnil (hK3 _ _ ?_)
  refine wp_seq_k fun K4 hK4 => ?_
  refine wp_seq_k fun K5 hK5 => ?_
  refine wp_region_lit ?_
  refine ls hk rfl rfl rfl (e_assign hk rfl _) fun a hk => ?_
  refine lnil (hK5 _ _ ?_)
  refine wp_block ?_
  refine loopN (fun n a w => ∃ i : Nat, n = 16 - i ∧ i ≤ 16 ∧ Kn a 19 [(2, .pointer (some ⟨b2, 0, none⟩)), (3, .pointer (some ⟨b3, 0, none⟩)), (4, .pointer (some ⟨b4, 0, none⟩)), (5, I i)] ∧ (Ext w0 w) ∧ (w.heap[b2]? = some (.cells cs2 44 (0, 0))) ∧ (w.heap[b3]? = some (.cells ((sha m).map B).toArray 24 (0, 0))) ∧ (w.heap[b4]? = some (.cells ((part16 (sha m) i).map B).toArray 44 (0, 0)))) (16 - 0) ?_ fun n a w hI => ?_
  · exact ⟨0, rfl, by omega, hk.sub _ ⟨rfl, rfl, rfl, rfl, trivial⟩, hB, h_b2, h_b3, h_b4⟩
  clear hk hB h_b2 h_b3 h_b4
  obtain ⟨i, rfl, hi_le, hk, hB, h_b2, h_b3, h_b4⟩ := hI
  refine wp_seq_k fun K6 hK6 => ?_
  refine wp_seq_k fun K7 hK7 => ?_
  refine wp_region_lit ?_
  refine ls hk rfl rfl rfl (e_move hk rfl _) fun a hk => ?_
  refine ls hk rfl rfl rfl (e_lss hk rfl rfl rfl _) fun a hk => ?_
  refine lnil (hK7 _ _ ?_)
  refine cdB hk rfl (fun hb => ?_) (fun hb => ?_)
  · have hi : i < 16 := by have := of_decide_eq_true hb; omega
    refine wp_skip (hK6 _ _ ?_)
    refine wp_seq_k fun K8 hK8 => ?_
    refine wp_block ?_
    refine wp_region_lit ?_
    refine ls hk rfl rfl rfl (e_move hk rfl _) fun a hk => ?_
    refine ls hk rfl rfl rfl (e_move hk rfl _) fun a hk => ?_
    refine ls hk rfl rfl rfl (e_idxA1 i hk rfl rfl Tryd.underlying24 sz5 rfl (by omega) _) fun a hk => ?_
    refine ls hk rfl rfl rfl (r_load hk rfl Tryd.underlying5 rfl h_b3 (byte_at _ i (by omega))) fun a hk => ?_
    refine ls hk rfl rfl rfl (e_idxA1 i hk rfl rfl Tryd.underlying44 sz5 rfl hi _) fun a hk => ?_
    refine la hk rfl (a_store hk rfl rfl rfl sz5 h_b4 (by simp [length_part16, hs, hi_le]; omega) fun a w hk W => ?_)
    have h_b2 := W.keep n_b2_b4 h_b2
    have h_b3 := W.keep n_b3_b4 h_b3
    have hB := W.below hB hg_b4
    have h_b4 := W.at_
    clear W
    rw [part16_set (sha m) i (by omega) hi] at h_b4
    refine lnil (hK8 _ _ ?_)
    refine wp_region_lit ?_
    refine ls hk rfl rfl rfl (e_move hk rfl _) fun a hk => ?_
    refine ls hk rfl rfl rfl (e_add hk rfl rfl (i64 (by omega) (by omega)) _) fun a hk => ?_
    refine ls hk rfl rfl rfl (e_assign hk rfl _) fun a hk => ?_
    refine lnil (show ∃ m : Nat, m < _ ∧ _ from ⟨16 - (i + 1), by omega, i + 1, rfl, by omega, hk.sub _ ⟨rfl, rfl, rfl, rfl, trivial⟩, hB, h_b2, h_b3, h_b4⟩)
  · have hi : i = 16 := by have := of_decide_eq_false hb; omega
    subst hi
    rw [part16_all] at h_b4
    refine wp_exit (hK4 _ _ ?_)
    refine wp_seq_k fun K9 hK9 => ?_
    refine wp_region_lit ?_
    refine ls hk rfl rfl rfl (r_ld44 hk rfl h_b4 (by simp [hs])) fun a hk => ?_
    refine la hk rfl (a_st44 hk rfl rfl (by simp [hs]) h_b2 hz2 fun a w hk W => ?_)
    have h_b3 := W.keep (Ne.symm n_b2_b3) h_b3
    have h_b4 := W.keep (Ne.symm n_b2_b4) h_b4
    have hB := W.below hB hg_b2
    have h_b2 := W.at_
    clear W
    refine lnil (hK9 _ _ ?_)
    refine wp_ret ?_
    exact ret44 hk rfl rfl h_b2 (by simp [hs]) ⟨rfl, hB⟩

set_option maxRecDepth 4000 in
set_option maxHeartbeats 1000000 in
theorem c36 (n₀ : Int) (ps : List (List UInt8)) (ad0 : Option Addr) (c0 : Nat) (w0 : World) (hR : Rs w0 ad0 ps.length c0 ps) (hGR : GR w0) (hn : ps.length ≤ 900) (hsum : ((ps.map encB).flatten).length ≤ 140737488352232) (hlen : ∀ x ∈ ps, x.length ≤ 140737488351232) :
    Calls Tryd.prog 36 #[I n₀, .slice ad0 ps.length c0] w0 fun e w' => e = .returned (D (ofD n₀ ps)) ∧ Ext w0 w' := by
  refine start 9 Tryd.func36 rfl rfl rfl fun a hk => ?_
  have hB : Ext w0 w0 := Below.refl _ _
  refine wp_seq_k fun K1 hK1 => ?_
  refine wp_region_lit ?_
  refine la hk rfl (a_alloc hk rfl zr44 fun a w b4 hk G => ?_)
  have hg_b4 : w0.heap.size ≤ b4 := Nat.le_trans hB.size G.ge
  have hB := ext_trans hB G.ext
  have h_b4 := G.at_
  clear G
  refine lnil (hK1 _ _ ?_)
  refine wp_seq_k fun K2 hK2 => ?_
  refine wp_region_lit ?_
  refine ls hk rfl rfl rfl (e_move hk rfl _) fun a hk => ?_
  refine ls hk rfl rfl rfl (e_move hk rfl _) fun a hk => ?_
  refine la hk rfl (a_call hk rfl rfl (c_fn hk rfl ok42) (c42 n₀ ps ad0 c0 _ (Rd.ext hR hB) hn hsum hlen) ?_)
  rintro e w ⟨ad2, c2, rfl, hown2, hE⟩
  refine ⟨_, rfl, fun a hk => ?_⟩
  have h_b4 := ext_at hE h_b4
  have hB := ext_trans hB hE
  obtain ⟨_, _, hv, _, hR2⟩ := Rd.of_own hown2
  cases hv
  have hml : (byteOf n₀ :: (ps.map encB).flatten).length ≤ 1 + ((ps.map encB).flatten).length := by simp only [List.length_cons]; omega
  clear hE
  refine la hk rfl (a_call hk rfl rfl (c_fn hk rfl ok74) (c74 (ofIn n₀ ps) ad2 c2 _ hR2 (hGR.ext hB) (by rw [ofIn]; omega)) ?_)
  rintro e w ⟨rfl, hE⟩
  refine ⟨_, rfl, fun a hk => ?_⟩
  have h_b4 := ext_at hE h_b4
  have hB := ext_trans hB hE
  clear hE
  refine la hk rfl (a_st44 hk rfl rfl (by simp [length_sha]) h_b4 rfl fun a w hk W => ?_)
  have hB := W.below hB hg_b4
  have h_b4 := W.at_
  clear W
  refine lnil (hK2 _ _ ?_)
  refine wp_ret ?_
  exact ret44 hk rfl rfl h_b4 (by simp [length_sha]) ⟨rfl, hB⟩

end Go.Proofs.YtidfbboalbchiaaDoor

namespace Go.Proofs.YtidfbboalbchiaaDoor
open Go Go.ChangeShapes Go.WideShapes Go.ChangeAt Go.RowKit

theorem u8_wf {n : Int} (h : (Lit.int .u8 n).wf = true) : Value.int .u8 n = B (UInt8.ofNat n.toNat) := by
  have h1 : 0 ≤ n ∧ n ≤ 255 := by simpa [Lit.wf, IntKind.min, IntKind.max, IntKind.signed, IntKind.bits] using h
  have e : (UInt8.ofNat n.toNat).toNat = n.toNat % 2 ^ 8 := rfl
  have h2 : ((UInt8.ofNat n.toNat).toNat : Int) = n := by rw [e]; omega
  show Value.int .u8 n = Value.int .u8 ((UInt8.ofNat n.toNat).toNat : Int)
  rw [h2]
theorem rd_ints {w : World} {x : Addr} {len cap : Nat} {zs : List Int} (hl : len ≤ cap) (hz : zs.length = cap) (hcell : ∀ i, i < zs.length → w.cell? (x.add i) = some (.int .u8 (zs.getD i 0))) (hwz : ∀ n ∈ zs, (Lit.int .u8 n).wf = true) :
    ∃ m : List UInt8, m.length = len ∧ Rd w (some x) len cap 1 (m.map B) := by
  refine ⟨(zs.take len).map fun n => UInt8.ofNat n.toNat, by simp; omega, by simp; omega, hl, fun i u hu => ?_⟩
  obtain ⟨b, off, spot⟩ := x
  have hi : i < len := by
    have := (List.getElem?_eq_some_iff.1 hu).1
    simp at this; omega
  have hc := hcell i (by omega)
  have hspot : spot = none := by simpa [Addr.add] using World.cell?_spot (hcell 0 (by omega))
  subst hspot
  rw [Addr.add_lit] at hc
  refine ⟨b, off, rfl, ?_⟩
  rw [hc]
  have hzi : i < zs.length := by omega
  have hv : zs.getD i 0 = zs[i] := by simp [hzi]
  rw [hv, u8_wf (hwz _ (List.getElem_mem hzi)), ← hu]
  simp [hi, hzi]
end Go.Proofs.YtidfbboalbchiaaDoor

namespace Go.Proofs.YtidfbboalbchiaaDoor
open Go Go.ChangeShapes Go.WideShapes Go.ChangeAt Go.RowKit

theorem rs_in {w : World} {x : Addr} {len cap : Nat} {ss : List ByteArray} (hl : len ≤ cap) (hz : ss.length = cap) (hcell : ∀ i, i < ss.length → w.cell? (x.add i) = some (.string (ss.getD i ByteArray.empty))) :
    ∃ ps : List (List UInt8), ps.length = len ∧ Rs w (some x) len cap ps := by
  refine ⟨(ss.take len).map fun s => s.data.toList, by simp; omega, by simp; omega, hl, fun i u hu => ?_⟩
  obtain ⟨b, off, spot⟩ := x
  have hi : i < len := by
    have := (List.getElem?_eq_some_iff.1 hu).1
    simp at this; omega
  have hc := hcell i (by omega)
  have hspot : spot = none := by simpa [Addr.add] using World.cell?_spot (hcell 0 (by omega))
  subst hspot
  rw [Addr.add_lit] at hc
  refine ⟨b, off, rfl, ?_⟩
  rw [hc]
  have hzi : i < ss.length := by omega
  have hv : ss.getD i ByteArray.empty = ss[i] := by simp [hzi]
  rw [hv, ← hu]
  simp [hi, hzi]
/-- The numbers of an int slice. -/
def Ri (w : World) (ad : Option Addr) (n c : Nat) (l : List Int) : Prop := Rd w ad n c 1 (l.map I)
def is64 (n : Int) : Prop := -9223372036854775808 ≤ n ∧ n ≤ 9223372036854775807
theorem i64_wf {n : Int} (h : (Lit.int .i64 n).wf = true) : is64 n := by
  simpa [Lit.wf, IntKind.min, IntKind.max, IntKind.signed, IntKind.bits, is64] using h
theorem ri_in {w : World} {x : Addr} {len cap : Nat} {zs : List Int} (hl : len ≤ cap) (hz : zs.length = cap) (hcell : ∀ i, i < zs.length → w.cell? (x.add i) = some (.int .i64 (zs.getD i 0))) (hwz : ∀ n ∈ zs, (Lit.int .i64 n).wf = true) :
    ∃ l : List Int, l.length = len ∧ Ri w (some x) len cap l ∧ ∀ n ∈ l, is64 n := by
  refine ⟨zs.take len, by simp; omega, ⟨by simp; omega, hl, fun i u hu => ?_⟩, fun n hn => i64_wf (hwz n (List.mem_of_mem_take hn))⟩
  obtain ⟨b, off, spot⟩ := x
  have hi : i < len := by
    have := (List.getElem?_eq_some_iff.1 hu).1
    simp at this; omega
  have hc := hcell i (by omega)
  have hspot : spot = none := by simpa [Addr.add] using World.cell?_spot (hcell 0 (by omega))
  subst hspot
  rw [Addr.add_lit] at hc
  refine ⟨b, off, rfl, ?_⟩
  rw [hc]
  have hzi : i < zs.length := by omega
  have hv : zs.getD i 0 = zs[i] := by simp [hzi]
  rw [hv, ← hu]
  simp [hi, hzi]
theorem u8s_of : ∀ cs : List Value, (∀ i, i < cs.length → ∃ n, cs[i]? = some (.int .u8 n) ∧ (Lit.int .u8 n).wf = true) → ∃ l : List UInt8, cs = l.map B := by
  intro cs
  induction cs with
  | nil => intro _; exact ⟨[], rfl⟩
  | cons v r ih =>
    intro h
    obtain ⟨n, h0, hw⟩ := h 0 (by simp)
    obtain ⟨l, rfl⟩ := ih fun i hi => by
      have := h (i + 1) (by simp; omega)
      simpa using this
    refine ⟨UInt8.ofNat n.toNat :: l, ?_⟩
    have : v = .int .u8 n := by simpa using h0
    rw [this, u8_wf hw]; rfl
theorem i64s_of : ∀ cs : List Value, (∀ i, i < cs.length → ∃ n, cs[i]? = some (.int .i64 n) ∧ (Lit.int .i64 n).wf = true) → ∃ l : List Int, cs = l.map I ∧ ∀ n ∈ l, is64 n := by
  intro cs
  induction cs with
  | nil => intro _; exact ⟨[], rfl, by simp⟩
  | cons v r ih =>
    intro h
    obtain ⟨n, h0, hw⟩ := h 0 (by simp)
    obtain ⟨l, rfl, hl⟩ := ih fun i hi => by
      have := h (i + 1) (by simp; omega)
      simpa using this
    refine ⟨n :: l, ?_, ?_⟩
    · have : v = .int .i64 n := by simpa using h0
      rw [this]; rfl
    · intro m hm
      rcases List.mem_cons.1 hm with rfl | hm
      · exact i64_wf hw
      · exact hl m hm
/-- An array's numbers. -/
theorem arr_each {H : Type} {enc : TypeId × Value → H} {P : Program} {w : World} {base fuel n : Nat} {sp : Nat → Bool} {held : Bool} {t e : TypeId} {k : IntKind} {cs : List Value} {x : DataW H × List MemPlace} (ht : P.underlying t = some (.array n e)) (he : P.underlying e = some (.int k)) (hc : P.cellsOf e = 1) (hn : P.cellsOf t = n)
    (h : DataW.trod enc P w base sp held fuel t cs = some x) : cs.length = n ∧ ∀ i, i < cs.length → ∃ m, cs[i]? = some (.int k m) ∧ (Lit.int k m).wf = true := by
  obtain ⟨xs, m, rfl, _, hl, hxl, hel⟩ := DataW.trod_array ht h
  rw [hn] at hl
  refine ⟨hl, fun i hi => ?_⟩
  have h1 := hel i (by omega)
  rw [hc, Nat.mul_one] at h1
  have h2 : xs[i]? = some (xs[i]'(by omega)) := List.getElem?_eq_getElem _
  rw [h2] at h1
  obtain ⟨z, e1, _, hw⟩ := DataW.trod_int he h1
  have h3 : ((cs.drop i).take 1)[0]? = some (.int k z) := by rw [e1]; rfl
  rw [List.getElem?_take, if_pos (by decide), List.getElem?_drop, Nat.add_zero] at h3
  exact ⟨z, h3, hw⟩
theorem c5' : Tryd.prog.cellsOf 5 = 1 := by kernel_rfl
theorem c3' : Tryd.prog.cellsOf 3 = 1 := by kernel_rfl
theorem c9' : Tryd.prog.cellsOf 9 = 1 := by kernel_rfl
theorem c44' : Tryd.prog.cellsOf 44 = 16 := by kernel_rfl
theorem c60' : Tryd.prog.cellsOf 60 = 2 := by kernel_rfl
theorem c66' : Tryd.prog.cellsOf 66 = 2 := by kernel_rfl
theorem okWide_array {P : Program} {W : World} {r : Reach} {b0 : Nat} {t e : TypeId} {n : Nat} {v : Value} (ht : P.underlying t = some (.array n e)) (h : Value.okWide P W r b0 t v) : ∃ xs : Array Value, v = .agg xs := by
  simp only [Value.okWide, ht] at h
  obtain ⟨cs, h1, _⟩ := h
  exact ⟨cs, h1⟩
end Go.Proofs.YtidfbboalbchiaaDoor

namespace Go.Proofs.YtidfbboalbchiaaDoor
open Go Go.RowKit

def am (n : Int) : Int := if n < 0 then -(n + 1) else n
theorem am_pos (n : Int) : 0 ≤ am n := by unfold am; split <;> omega
theorem am_le {n : Int} (h : is64 n) : am n ≤ 9223372036854775807 := by obtain ⟨h1, h2⟩ := h; unfold am; split <;> omega
/-- A number from 0 to most - 1 made from n; 0, if there is none. -/
def aroundS (n most : Int) : Int := if most < 1 then 0 else am n % most
theorem around_pos (n most : Int) : 0 ≤ aroundS n most := by
  unfold aroundS; split
  · omega
  · exact Int.emod_nonneg _ (by omega)
theorem around_lt {n most : Int} (h : 1 ≤ most) : aroundS n most < most := by
  unfold aroundS; rw [if_neg (by omega)]; exact Int.emod_lt_of_pos _ (by omega)
theorem around_le (n : Int) {most : Int} (h : is64 most) : aroundS n most ≤ 9223372036854775807 := by
  obtain ⟨h1, h2⟩ := h
  by_cases h3 : 1 ≤ most
  · have := around_lt (n := n) h3; omega
  · unfold aroundS; rw [if_pos (by omega)]; omega
/-- A number from 0 to most - 1 made from an element of a list. -/
def atS (l : List Int) (i most : Int) : Int := if i < 0 then 0 else match l[i.toNat]? with | some n => aroundS n most | none => 0
theorem at_pos (l : List Int) (i most : Int) : 0 ≤ atS l i most := by
  unfold atS; split
  · omega
  · split
    · exact around_pos _ _
    · omega
theorem at_lt (l : List Int) (i : Int) {most : Int} (h : 1 ≤ most) : atS l i most < most := by
  unfold atS; split
  · omega
  · split
    · exact around_lt h
    · omega
def tab8 : List UInt8 := [0, 1, 2, 2, 3, 3, 3, 3, 4, 4, 4, 4, 4, 4, 4, 4, 5, 5, 5, 5, 5, 5, 5, 5, 5, 5, 5, 5, 5, 5, 5, 5, 6, 6, 6, 6, 6, 6, 6, 6, 6, 6, 6, 6, 6, 6, 6, 6, 6, 6, 6, 6, 6, 6, 6, 6, 6, 6, 6, 6, 6, 6, 6, 6, 7, 7, 7, 7, 7, 7, 7, 7, 7, 7, 7, 7, 7, 7, 7, 7, 7, 7, 7, 7, 7, 7, 7, 7, 7, 7, 7, 7, 7, 7, 7, 7, 7, 7, 7, 7, 7, 7, 7, 7, 7, 7, 7, 7, 7, 7, 7, 7, 7, 7, 7, 7, 7, 7, 7, 7, 7, 7, 7, 7, 7, 7, 7, 7, 8, 8, 8, 8, 8, 8, 8, 8, 8, 8, 8, 8, 8, 8, 8, 8, 8, 8, 8, 8, 8, 8, 8, 8, 8, 8, 8, 8, 8, 8, 8, 8, 8, 8, 8, 8, 8, 8, 8, 8, 8, 8, 8, 8, 8, 8, 8, 8, 8, 8, 8, 8, 8, 8, 8, 8, 8, 8, 8, 8, 8, 8, 8, 8, 8, 8, 8, 8, 8, 8, 8, 8, 8, 8, 8, 8, 8, 8, 8, 8, 8, 8, 8, 8, 8, 8, 8, 8, 8, 8, 8, 8, 8, 8, 8, 8, 8, 8, 8, 8, 8, 8, 8, 8, 8, 8, 8, 8, 8, 8, 8, 8, 8, 8, 8, 8, 8, 8, 8, 8, 8, 8, 8, 8, 8, 8, 8, 8]
theorem tab8_ok : ∀ i : Fin 256, tab8[i.val]? = some (UInt8.ofNat (if i.val = 0 then 0 else Nat.log2 i.val + 1)) := by decide +kernel
theorem tab8_at (m : Nat) (h0 : 0 < m) (h : m < 256) : tab8[m]? = some (UInt8.ofNat (Nat.log2 m + 1)) := by
  have := tab8_ok ⟨m, h⟩
  rw [if_neg (by show ¬ m = 0; omega)] at this
  exact this
theorem log2_lt8 {m : Nat} (h : m < 256) : Nat.log2 m < 8 := by
  by_cases h0 : m = 0
  · subst h0; decide
  · exact (Nat.log2_lt h0).2 h
theorem u_shrN (m s : Nat) (h : s < 64) : ((m : Int)).fdiv (2 ^ min s IntKind.u64.bits) = ((m / 2 ^ s : Nat) : Int) := u_shr m s h

set_option maxRecDepth 4000 in
set_option maxHeartbeats 1000000 in
theorem c45 (n₀ m₀ : Int) (w0 : World) (h0 : is64 n₀) : Calls Tryd.prog 45 #[I n₀, I m₀] w0 fun e w' => e = .returned (I (aroundS n₀ m₀)) ∧ Ext w0 w' := by
  obtain ⟨h1, h2⟩ := h0
  refine start 15 Tryd.func45 rfl rfl rfl fun a hk => ?_
  have hB : Ext w0 w0 := Below.refl _ _
  refine wp_seq_k fun K1 hK1 => ?_
  refine wp_region_lit ?_
  refine ls hk rfl rfl rfl (e_assign hk rfl _) fun a hk => ?_
  refine lnil (hK1 _ _ ?_)
  refine wp_seq_k fun K2 hK2 => ?_
  have hJ2 : ∀ (a : Act) (w : World), (Kn a 15 [(0, I (am n₀)), (1, I m₀)] ∧ (Ext w0 w)) → K2 a w := by
    clear hk hB
    intro a w ⟨hk, hB⟩
    refine hK2 _ _ ?_
    refine wp_seq_k fun K3 hK3 => ?_
    refine wp_seq_k fun K4 hK4 => ?_
    refine wp_region_lit ?_
    refine ls hk rfl rfl rfl (e_move hk rfl _) fun a hk => ?_
    refine ls hk rfl rfl rfl (e_lss hk rfl rfl rfl _) fun a hk => ?_
    refine lnil (hK4 _ _ ?_)
    refine cdB hk rfl (fun hb => ?_) (fun hb => ?_)
    · have hm : m₀ < 1 := by have := of_decide_eq_true hb; omega
      refine wp_seq_k fun K5 hK5 => ?_
      refine wp_region_lit ?_
      refine ls hk rfl rfl rfl (e_assign hk rfl _) fun a hk => ?_
      refine lnil (hK5 _ _ ?_)
      refine wp_ret ?_
      simp only [then_ret]
      exact ret1 hk rfl rfl ⟨by rw [show aroundS n₀ m₀ = 0 by unfold aroundS; rw [if_pos hm]], hB⟩
    · have hm : ¬ m₀ < 1 := by have := of_decide_eq_false hb; omega
      refine wp_skip (hK3 _ _ ?_)
      refine wp_seq_k fun K6 hK6 => ?_
      refine wp_region_lit ?_
      refine ls hk rfl rfl rfl (e_move hk rfl _) fun a hk => ?_
      refine ls hk rfl rfl rfl (e_move hk rfl _) fun a hk => ?_
      refine ls hk rfl rfl rfl (e_rem (q := aroundS n₀ m₀) hk rfl rfl (by omega) (by rw [Int.tmod_eq_emod_of_nonneg (am_pos _)]; unfold aroundS; rw [if_neg hm]) _) fun a hk => ?_
      refine ls hk rfl rfl rfl (e_assign hk rfl _) fun a hk => ?_
      refine lnil (hK6 _ _ ?_)
      refine wp_ret ?_
      exact ret1 hk rfl rfl ⟨rfl, hB⟩
  refine wp_seq_k fun K7 hK7 => ?_
  refine wp_region_lit ?_
  refine ls hk rfl rfl rfl (e_move hk rfl _) fun a hk => ?_
  refine ls hk rfl rfl rfl (e_lss hk rfl rfl rfl _) fun a hk => ?_
  refine lnil (hK7 _ _ ?_)
  refine cdB hk rfl (fun hb => ?_) (fun hb => ?_)
  · have hneg : n₀ < 0 := by have := of_decide_eq_true hb; omega
    refine wp_region_lit ?_
    refine ls hk rfl rfl rfl (e_move hk rfl _) fun a hk => ?_
    refine ls hk rfl rfl rfl (e_add hk rfl rfl (i64 (by omega) (by omega)) _) fun a hk => ?_
    refine ls hk rfl rfl rfl (e_neg hk rfl (i64 (by omega) (by omega)) _) fun a hk => ?_
    refine ls hk rfl rfl rfl (e_assign hk rfl _) fun a hk => ?_
    refine lnil (hJ2 _ _ ⟨by first | exact hk.sub _ ⟨by rw [show am n₀ = 0 - (n₀ + 1) by unfold am; rw [if_pos hneg]; omega]; rfl, rfl, trivial⟩ | exact hk.sub _ ⟨by rw [show am n₀ = n₀ by unfold am; rw [if_neg hneg]]; rfl, rfl, trivial⟩, hB⟩)
  · have hneg : ¬ n₀ < 0 := by have := of_decide_eq_false hb; omega
    refine wp_skip (hJ2 _ _ ⟨by first | exact hk.sub _ ⟨by rw [show am n₀ = 0 - (n₀ + 1) by unfold am; rw [if_pos hneg]; omega]; rfl, rfl, trivial⟩ | exact hk.sub _ ⟨by rw [show am n₀ = n₀ by unfold am; rw [if_neg hneg]]; rfl, rfl, trivial⟩, hB⟩)

set_option maxRecDepth 4000 in
set_option maxHeartbeats 1000000 in
theorem c92 (l : List Int) (i₀ m₀ : Int) (ad : Option Addr) (c : Nat) (w0 : World) (hR : Ri w0 ad l.length c l) (hl : ∀ n ∈ l, is64 n) : Calls Tryd.prog 92 #[.slice ad l.length c, I i₀, I m₀] w0 fun e w' => e = .returned (I (atS l i₀ m₀)) ∧ Ext w0 w' := by
  rcases (by omega : i₀ < 0 ∨ (0 ≤ i₀ ∧ i₀ ≥ l.length) ∨ (0 ≤ i₀ ∧ i₀ < l.length)) with hc | hc | hc
  · have hz : atS l i₀ m₀ = 0 := by unfold atS; rw [if_pos hc]
    refine start 21 Tryd.func92 rfl rfl rfl fun a hk => ?_
    have hB : Ext w0 w0 := Below.refl _ _
    refine wp_seq_k fun K1 hK1 => ?_
    refine wp_region_lit ?_
    refine ls hk rfl rfl rfl (e_assign hk rfl _) fun a hk => ?_
    refine lnil (hK1 _ _ ?_)
    refine wp_seq_k fun K2 hK2 => ?_
    refine wp_seq_k fun K3 hK3 => ?_
    refine wp_region_lit ?_
    refine ls hk rfl rfl rfl (e_move hk rfl _) fun a hk => ?_
    refine ls hk rfl rfl rfl (e_lss (b := true) hk rfl rfl (decide_eq_true (by omega)) _) fun a hk => ?_
    refine ls hk rfl rfl rfl (e_move hk rfl _) fun a hk => ?_
    refine lno hk rfl rfl rfl fun a hk => ?_
    refine lno hk rfl rfl rfl fun a hk => ?_
    refine lno hk rfl rfl rfl fun a hk => ?_
    refine lno hk rfl rfl rfl fun a hk => ?_
    refine ls hk rfl rfl rfl (e_pickT hk rfl rfl _) fun a hk => ?_
    refine lnil (hK3 _ _ ?_)
    refine cdT hk rfl ?_
    refine wp_seq_k fun K4 hK4 => ?_
    refine wp_region_lit ?_
    refine ls hk rfl rfl rfl (e_assign hk rfl _) fun a hk => ?_
    refine lnil (hK4 _ _ ?_)
    refine wp_ret ?_
    simp only [then_ret]
    exact ret1 hk rfl rfl ⟨by rw [hz], hB⟩
  · have hz : atS l i₀ m₀ = 0 := by unfold atS; rw [if_neg (by omega), List.getElem?_eq_none (by omega)]
    refine start 21 Tryd.func92 rfl rfl rfl fun a hk => ?_
    have hB : Ext w0 w0 := Below.refl _ _
    refine wp_seq_k fun K1 hK1 => ?_
    refine wp_region_lit ?_
    refine ls hk rfl rfl rfl (e_assign hk rfl _) fun a hk => ?_
    refine lnil (hK1 _ _ ?_)
    refine wp_seq_k fun K2 hK2 => ?_
    refine wp_seq_k fun K3 hK3 => ?_
    refine wp_region_lit ?_
    refine ls hk rfl rfl rfl (e_move hk rfl _) fun a hk => ?_
    refine ls hk rfl rfl rfl (e_lss (b := false) hk rfl rfl (decide_eq_false (by omega)) _) fun a hk => ?_
    refine ls hk rfl rfl rfl (e_move hk rfl _) fun a hk => ?_
    refine ls hk rfl rfl rfl (e_move hk rfl _) fun a hk => ?_
    refine ls hk rfl rfl rfl (e_move hk rfl _) fun a hk => ?_
    refine ls hk rfl rfl rfl (e_lenS hk rfl Tryd.underlying45 _) fun a hk => ?_
    refine ls hk rfl rfl rfl (e_geq (b := true) hk rfl rfl (decide_eq_true (by omega)) _) fun a hk => ?_
    refine ls hk rfl rfl rfl (e_pickF hk rfl rfl _) fun a hk => ?_
    refine lnil (hK3 _ _ ?_)
    refine cdT hk rfl ?_
    refine wp_seq_k fun K4 hK4 => ?_
    refine wp_region_lit ?_
    refine ls hk rfl rfl rfl (e_assign hk rfl _) fun a hk => ?_
    refine lnil (hK4 _ _ ?_)
    refine wp_ret ?_
    simp only [then_ret]
    exact ret1 hk rfl rfl ⟨by rw [hz], hB⟩
  · obtain ⟨x, hx⟩ : ∃ x, l[i₀.toNat]? = some x := ⟨_, List.getElem?_eq_getElem (by omega)⟩
    have hz : atS l i₀ m₀ = aroundS x m₀ := by unfold atS; rw [if_neg (by omega), hx]
    obtain ⟨bp, op, rfl, hcell⟩ := hR.2.2 i₀.toNat (I x) (by rw [List.getElem?_map, hx]; rfl)
    refine start 21 Tryd.func92 rfl rfl rfl fun a hk => ?_
    have hB : Ext w0 w0 := Below.refl _ _
    refine wp_seq_k fun K1 hK1 => ?_
    refine wp_region_lit ?_
    refine ls hk rfl rfl rfl (e_assign hk rfl _) fun a hk => ?_
    refine lnil (hK1 _ _ ?_)
    refine wp_seq_k fun K2 hK2 => ?_
    refine wp_seq_k fun K3 hK3 => ?_
    refine wp_region_lit ?_
    refine ls hk rfl rfl rfl (e_move hk rfl _) fun a hk => ?_
    refine ls hk rfl rfl rfl (e_lss (b := false) hk rfl rfl (decide_eq_false (by omega)) _) fun a hk => ?_
    refine ls hk rfl rfl rfl (e_move hk rfl _) fun a hk => ?_
    refine ls hk rfl rfl rfl (e_move hk rfl _) fun a hk => ?_
    refine ls hk rfl rfl rfl (e_move hk rfl _) fun a hk => ?_
    refine ls hk rfl rfl rfl (e_lenS hk rfl Tryd.underlying45 _) fun a hk => ?_
    refine ls hk rfl rfl rfl (e_geq (b := false) hk rfl rfl (decide_eq_false (by omega)) _) fun a hk => ?_
    refine ls hk rfl rfl rfl (e_pickF hk rfl rfl _) fun a hk => ?_
    refine lnil (hK3 _ _ ?_)
    refine cdF hk rfl ?_
    refine wp_skip (hK2 _ _ ?_)
    refine wp_seq_k fun K4 hK4 => ?_
    refine wp_region_lit ?_
    refine ls hk rfl rfl rfl (e_move hk rfl _) fun a hk => ?_
    refine ls hk rfl rfl rfl (e_move hk rfl _) fun a hk => ?_
    refine ls hk rfl rfl rfl (e_idxS1 i₀.toNat hk rfl rfl Tryd.underlying45 sz3 (by omega) (by omega) _) fun a hk => ?_
    refine ls hk rfl rfl rfl (r_load1 hk rfl Tryd.underlying3 rfl (ext_cell hB hcell)) fun a hk => ?_
    refine ls hk rfl rfl rfl (e_move hk rfl _) fun a hk => ?_
    refine la hk rfl (a_call hk rfl rfl (c_fn hk rfl ok45) (c45 x m₀ _ (hl x (List.mem_of_getElem? hx))) ?_)
    rintro e w ⟨rfl, hE⟩
    refine ⟨_, rfl, fun a hk => ?_⟩
    have hB := ext_trans hB hE
    clear hE
    refine ls hk rfl rfl rfl (e_assign hk rfl _) fun a hk => ?_
    refine lnil (hK4 _ _ ?_)
    refine wp_ret ?_
    exact ret1 hk rfl rfl ⟨by rw [hz], hB⟩

set_option maxRecDepth 4000 in
set_option maxHeartbeats 1000000 in
theorem c95 (n₀ : Nat) (w0 : World) (h0 : n₀ ≤ 1000000000000) : Calls Tryd.prog 95 #[I n₀] w0 fun e w' => e = .returned (I (hlf n₀)) ∧ Ext w0 w' := by
  refine start 11 Tryd.func95 rfl rfl rfl fun a hk => ?_
  have hB : Ext w0 w0 := Below.refl _ _
  refine wp_seq_k fun K1 hK1 => ?_
  refine wp_region_lit ?_
  refine ls hk rfl rfl rfl (e_assign hk rfl _) fun a hk => ?_
  refine lnil (hK1 _ _ ?_)
  refine wp_seq_k fun K2 hK2 => ?_
  refine wp_region_lit ?_
  refine ls hk rfl rfl rfl (e_assign hk rfl _) fun a hk => ?_
  refine lnil (hK2 _ _ ?_)
  refine wp_seq_k fun K3 hK3 => ?_
  refine wp_block ?_
  refine loopN (fun n a w => ∃ p : Nat, n = n₀ - p ∧ 0 < p ∧ (∃ j, p = 2 ^ j ∧ (j = 0 ∨ p < n₀)) ∧ Kn a 11 [(0, I n₀), (3, I p)] ∧ Ext w0 w) (n₀ - 1) ?_ fun n a w hI => ?_
  · exact ⟨1, rfl, by decide, ⟨0, rfl, .inl rfl⟩, hk.sub _ ⟨rfl, rfl, trivial⟩, hB⟩
  clear hk hB
  obtain ⟨p, rfl, hp0, ⟨j, hj, hjn⟩, hk, hB⟩ := hI
  refine wp_seq_k fun K4 hK4 => ?_
  refine wp_seq_k fun K5 hK5 => ?_
  have hpn : p ≤ n₀ ∨ p = 1 := by rcases hjn with h | h
                                  · subst h; right; simpa using hj
                                  · left; omega
  refine wp_region_lit ?_
  refine ls hk rfl rfl rfl (e_move hk rfl _) fun a hk => ?_
  refine ls hk rfl rfl rfl (e_mul (q := ((2 * p : Nat) : Int)) hk rfl rfl (by rw [i64 (by omega) (by omega)]; omega) _) fun a hk => ?_
  refine ls hk rfl rfl rfl (e_move hk rfl _) fun a hk => ?_
  refine ls hk rfl rfl rfl (e_lss hk rfl rfl rfl _) fun a hk => ?_
  refine lnil (hK5 _ _ ?_)
  refine cdB hk rfl (fun hb => ?_) (fun hb => ?_)
  · have hlt : 2 * p < n₀ := by have := of_decide_eq_true hb; omega
    refine wp_skip (hK4 _ _ ?_)
    refine wp_block ?_
    refine wp_region_lit ?_
    refine ls hk rfl rfl rfl (e_move hk rfl _) fun a hk => ?_
    refine ls hk rfl rfl rfl (e_mul (q := ((2 * p : Nat) : Int)) hk rfl rfl (by rw [i64 (by omega) (by omega)]; omega) _) fun a hk => ?_
    refine ls hk rfl rfl rfl (e_assign hk rfl _) fun a hk => ?_
    refine lnil (show ∃ m : Nat, m < _ ∧ _ from ⟨n₀ - 2 * p, by omega, 2 * p, rfl, by omega, ⟨j + 1, by rw [Nat.pow_succ, ← hj, Nat.mul_comm], .inr (by omega)⟩, hk.sub _ ⟨rfl, rfl, trivial⟩, hB⟩)
  · have hge : n₀ ≤ 2 * p := by have := of_decide_eq_false hb; omega
    refine wp_exit (hK3 _ _ ?_)
    refine wp_seq_k fun K6 hK6 => ?_
    refine wp_region_lit ?_
    refine ls hk rfl rfl rfl (e_move hk rfl _) fun a hk => ?_
    refine ls hk rfl rfl rfl (e_assign hk rfl _) fun a hk => ?_
    refine lnil (hK6 _ _ ?_)
    refine wp_ret ?_
    have hh : hlf n₀ = p := by
      rw [hj]
      refine hlf_is ?_ (by omega)
      rcases hjn with h | h
      · exact .inl h
      · right; omega
    exact ret1 hk rfl rfl ⟨by rw [hh], hB⟩

set_option maxRecDepth 4000 in
set_option maxHeartbeats 1000000 in
theorem c138 (m₀ : Nat) (w0 : World) (h0 : 0 < m₀) (h1 : m₀ < 4294967296) : Calls Tryd.prog 138 #[.int .u64 (m₀ : Int)] w0 fun e w' => e = .returned (I (Nat.log2 m₀ + 1 : Nat)) ∧ Ext w0 w' := by
  refine start 25 Tryd.func138 rfl rfl rfl fun a hk => ?_
  have hB : Ext w0 w0 := Below.refl _ _
  refine wp_seq_k fun K1 hK1 => ?_
  refine wp_region_lit ?_
  refine ls hk rfl rfl rfl (e_assign hk rfl _) fun a hk => ?_
  refine lnil (hK1 _ _ ?_)
  refine wp_seq_k fun K2 hK2 => ?_
  refine wp_seq_k fun K3 hK3 => ?_
  refine wp_region_lit ?_
  refine ls hk rfl rfl rfl (e_move hk rfl _) fun a hk => ?_
  refine ls hk rfl rfl rfl (e_geq (b := false) hk rfl rfl (decide_eq_false (by omega)) _) fun a hk => ?_
  refine lnil (hK3 _ _ ?_)
  refine cdF hk rfl ?_
  refine wp_skip (hK2 _ _ ?_)
  refine wp_seq_k fun K4 hK4 => ?_
  refine wp_seq_k fun K5 hK5 => ?_
  refine wp_region_lit ?_
  refine ls hk rfl rfl rfl (e_move hk rfl _) fun a hk => ?_
  refine ls hk rfl rfl rfl (e_geq hk rfl rfl rfl _) fun a hk => ?_
  refine lnil (hK5 _ _ ?_)
  refine cdB hk rfl (fun hb => ?_) (fun hb => ?_)
  · have hge : 65536 ≤ m₀ := by have := of_decide_eq_true hb; omega
    obtain ⟨m, hm⟩ : ∃ m, m = m₀ / 2 ^ 16 := ⟨_, rfl⟩
    have hL := log2_shift (s := 16) (m := m₀) hge
    have hm2 : m < 65536 := by omega
    rw [← hm] at hL
    have hm0 : 0 < m := by omega
    refine wp_seq_k fun K6 hK6 => ?_
    refine wp_region_lit ?_
    refine ls hk rfl rfl rfl (e_move hk rfl _) fun a hk => ?_
    refine ls hk rfl rfl rfl (e_shr hk rfl rfl (by decide) (u_shrN m₀ 16 (by decide)) _) fun a hk => ?_
    refine ls hk rfl rfl rfl (e_assign hk rfl _) fun a hk => ?_
    refine lnil (hK6 _ _ ?_)
    rw [← hm] at hk
    refine wp_region_lit ?_
    refine ls hk rfl rfl rfl (e_move hk rfl _) fun a hk => ?_
    refine ls hk rfl rfl rfl (e_add (q := 16) hk rfl rfl (by decide) _) fun a hk => ?_
    refine ls hk rfl rfl rfl (e_assign hk rfl _) fun a hk => ?_
    refine lnil (hK4 _ _ ?_)
    refine wp_seq_k fun K7 hK7 => ?_
    refine wp_seq_k fun K8 hK8 => ?_
    refine wp_region_lit ?_
    refine ls hk rfl rfl rfl (e_move hk rfl _) fun a hk => ?_
    refine ls hk rfl rfl rfl (e_geq hk rfl rfl rfl _) fun a hk => ?_
    refine lnil (hK8 _ _ ?_)
    refine cdB hk rfl (fun hb => ?_) (fun hb => ?_)
    · have hge3 : 256 ≤ m := by have := of_decide_eq_true hb; omega
      obtain ⟨k, hk2⟩ : ∃ k, k = m / 2 ^ 8 := ⟨_, rfl⟩
      have hL2 := log2_shift (s := 8) (m := m) hge3
      rw [← hk2] at hL2
      have hk3 : k < 256 := by omega
      have hk0 : 0 < k := by omega
      have hk8 := log2_lt8 hk3
      refine wp_seq_k fun K9 hK9 => ?_
      refine wp_region_lit ?_
      refine ls hk rfl rfl rfl (e_move hk rfl _) fun a hk => ?_
      refine ls hk rfl rfl rfl (e_shr hk rfl rfl (by decide) (u_shrN m 8 (by decide)) _) fun a hk => ?_
      refine ls hk rfl rfl rfl (e_assign hk rfl _) fun a hk => ?_
      refine lnil (hK9 _ _ ?_)
      rw [← hk2] at hk
      refine wp_region_lit ?_
      refine ls hk rfl rfl rfl (e_move hk rfl _) fun a hk => ?_
      refine ls hk rfl rfl rfl (e_add hk rfl rfl (i64 (by omega) (by omega)) _) fun a hk => ?_
      refine ls hk rfl rfl rfl (e_assign hk rfl _) fun a hk => ?_
      refine lnil (hK7 _ _ ?_)
      refine wp_seq_k fun K10 hK10 => ?_
      refine wp_region_lit ?_
      refine ls hk rfl rfl rfl (e_move hk rfl _) fun a hk => ?_
      refine ls hk rfl rfl rfl (e_move hk rfl _) fun a hk => ?_
      refine ls hk rfl rfl rfl (e_conv hk rfl Tryd.underlying32 Tryd.underlying5 (u8 (by omega) (by omega)) _) fun a hk => ?_
      refine ls hk rfl rfl rfl (e_idxStr (s := tab8) (c := UInt8.ofNat (Nat.log2 k + 1)) hk rfl rfl Tryd.underlying9 (by omega) (by rw [Int.toNat_natCast]; exact tab8_at k hk0 hk3) _) fun a hk => ?_
      refine ls hk rfl rfl rfl (e_conv (q := ((Nat.log2 k + 1 : Nat) : Int)) hk rfl Tryd.underlying5 Tryd.underlying3 (by rw [show (UInt8.ofNat (Nat.log2 k + 1)).toNat = Nat.log2 k + 1 by (have : (UInt8.ofNat (Nat.log2 k + 1)).toNat = (Nat.log2 k + 1) % 2 ^ 8 := rfl); omega]; exact i64 (by omega) (by omega)) _) fun a hk => ?_
      refine ls hk rfl rfl rfl (e_add (q := ((Nat.log2 m₀ + 1 : Nat) : Int)) hk rfl rfl (by rw [i64 (by omega) (by omega)]; omega) _) fun a hk => ?_
      refine ls hk rfl rfl rfl (e_assign hk rfl _) fun a hk => ?_
      refine lnil (hK10 _ _ ?_)
      refine wp_ret ?_
      exact ret1 hk rfl rfl ⟨rfl, hB⟩
    · have hlt3 : m < 256 := by have := of_decide_eq_false hb; omega
      obtain ⟨k, hk2⟩ : ∃ k, k = m := ⟨_, rfl⟩
      have hL2 : Nat.log2 m = Nat.log2 k + 0 := by rw [hk2]; rfl
      have hk3 : k < 256 := by omega
      have hk0 : 0 < k := by omega
      have hk8 := log2_lt8 hk3
      rw [← hk2] at hk
      refine wp_skip (hK7 _ _ ?_)
      refine wp_seq_k fun K11 hK11 => ?_
      refine wp_region_lit ?_
      refine ls hk rfl rfl rfl (e_move hk rfl _) fun a hk => ?_
      refine ls hk rfl rfl rfl (e_move hk rfl _) fun a hk => ?_
      refine ls hk rfl rfl rfl (e_conv hk rfl Tryd.underlying32 Tryd.underlying5 (u8 (by omega) (by omega)) _) fun a hk => ?_
      refine ls hk rfl rfl rfl (e_idxStr (s := tab8) (c := UInt8.ofNat (Nat.log2 k + 1)) hk rfl rfl Tryd.underlying9 (by omega) (by rw [Int.toNat_natCast]; exact tab8_at k hk0 hk3) _) fun a hk => ?_
      refine ls hk rfl rfl rfl (e_conv (q := ((Nat.log2 k + 1 : Nat) : Int)) hk rfl Tryd.underlying5 Tryd.underlying3 (by rw [show (UInt8.ofNat (Nat.log2 k + 1)).toNat = Nat.log2 k + 1 by (have : (UInt8.ofNat (Nat.log2 k + 1)).toNat = (Nat.log2 k + 1) % 2 ^ 8 := rfl); omega]; exact i64 (by omega) (by omega)) _) fun a hk => ?_
      refine ls hk rfl rfl rfl (e_add (q := ((Nat.log2 m₀ + 1 : Nat) : Int)) hk rfl rfl (by rw [i64 (by omega) (by omega)]; omega) _) fun a hk => ?_
      refine ls hk rfl rfl rfl (e_assign hk rfl _) fun a hk => ?_
      refine lnil (hK11 _ _ ?_)
      refine wp_ret ?_
      exact ret1 hk rfl rfl ⟨rfl, hB⟩
  · have hlt : m₀ < 65536 := by have := of_decide_eq_false hb; omega
    obtain ⟨m, hm⟩ : ∃ m, m = m₀ := ⟨_, rfl⟩
    have hL : Nat.log2 m₀ = Nat.log2 m + 0 := by rw [hm]; rfl
    rw [← hm] at hk
    refine wp_skip (hK4 _ _ ?_)
    refine wp_seq_k fun K12 hK12 => ?_
    refine wp_seq_k fun K13 hK13 => ?_
    refine wp_region_lit ?_
    refine ls hk rfl rfl rfl (e_move hk rfl _) fun a hk => ?_
    refine ls hk rfl rfl rfl (e_geq hk rfl rfl rfl _) fun a hk => ?_
    refine lnil (hK13 _ _ ?_)
    refine cdB hk rfl (fun hb => ?_) (fun hb => ?_)
    · have hge3 : 256 ≤ m := by have := of_decide_eq_true hb; omega
      obtain ⟨k, hk2⟩ : ∃ k, k = m / 2 ^ 8 := ⟨_, rfl⟩
      have hL2 := log2_shift (s := 8) (m := m) hge3
      rw [← hk2] at hL2
      have hk3 : k < 256 := by omega
      have hk0 : 0 < k := by omega
      have hk8 := log2_lt8 hk3
      refine wp_seq_k fun K14 hK14 => ?_
      refine wp_region_lit ?_
      refine ls hk rfl rfl rfl (e_move hk rfl _) fun a hk => ?_
      refine ls hk rfl rfl rfl (e_shr hk rfl rfl (by decide) (u_shrN m 8 (by decide)) _) fun a hk => ?_
      refine ls hk rfl rfl rfl (e_assign hk rfl _) fun a hk => ?_
      refine lnil (hK14 _ _ ?_)
      rw [← hk2] at hk
      refine wp_region_lit ?_
      refine ls hk rfl rfl rfl (e_move hk rfl _) fun a hk => ?_
      refine ls hk rfl rfl rfl (e_add hk rfl rfl (i64 (by omega) (by omega)) _) fun a hk => ?_
      refine ls hk rfl rfl rfl (e_assign hk rfl _) fun a hk => ?_
      refine lnil (hK12 _ _ ?_)
      refine wp_seq_k fun K15 hK15 => ?_
      refine wp_region_lit ?_
      refine ls hk rfl rfl rfl (e_move hk rfl _) fun a hk => ?_
      refine ls hk rfl rfl rfl (e_move hk rfl _) fun a hk => ?_
      refine ls hk rfl rfl rfl (e_conv hk rfl Tryd.underlying32 Tryd.underlying5 (u8 (by omega) (by omega)) _) fun a hk => ?_
      refine ls hk rfl rfl rfl (e_idxStr (s := tab8) (c := UInt8.ofNat (Nat.log2 k + 1)) hk rfl rfl Tryd.underlying9 (by omega) (by rw [Int.toNat_natCast]; exact tab8_at k hk0 hk3) _) fun a hk => ?_
      refine ls hk rfl rfl rfl (e_conv (q := ((Nat.log2 k + 1 : Nat) : Int)) hk rfl Tryd.underlying5 Tryd.underlying3 (by rw [show (UInt8.ofNat (Nat.log2 k + 1)).toNat = Nat.log2 k + 1 by (have : (UInt8.ofNat (Nat.log2 k + 1)).toNat = (Nat.log2 k + 1) % 2 ^ 8 := rfl); omega]; exact i64 (by omega) (by omega)) _) fun a hk => ?_
      refine ls hk rfl rfl rfl (e_add (q := ((Nat.log2 m₀ + 1 : Nat) : Int)) hk rfl rfl (by rw [i64 (by omega) (by omega)]; omega) _) fun a hk => ?_
      refine ls hk rfl rfl rfl (e_assign hk rfl _) fun a hk => ?_
      refine lnil (hK15 _ _ ?_)
      refine wp_ret ?_
      exact ret1 hk rfl rfl ⟨rfl, hB⟩
    · have hlt3 : m < 256 := by have := of_decide_eq_false hb; omega
      obtain ⟨k, hk2⟩ : ∃ k, k = m := ⟨_, rfl⟩
      have hL2 : Nat.log2 m = Nat.log2 k + 0 := by rw [hk2]; rfl
      have hk3 : k < 256 := by omega
      have hk0 : 0 < k := by omega
      have hk8 := log2_lt8 hk3
      rw [← hk2] at hk
      refine wp_skip (hK12 _ _ ?_)
      refine wp_seq_k fun K16 hK16 => ?_
      refine wp_region_lit ?_
      refine ls hk rfl rfl rfl (e_move hk rfl _) fun a hk => ?_
      refine ls hk rfl rfl rfl (e_move hk rfl _) fun a hk => ?_
      refine ls hk rfl rfl rfl (e_conv hk rfl Tryd.underlying32 Tryd.underlying5 (u8 (by omega) (by omega)) _) fun a hk => ?_
      refine ls hk rfl rfl rfl (e_idxStr (s := tab8) (c := UInt8.ofNat (Nat.log2 k + 1)) hk rfl rfl Tryd.underlying9 (by omega) (by rw [Int.toNat_natCast]; exact tab8_at k hk0 hk3) _) fun a hk => ?_
      refine ls hk rfl rfl rfl (e_conv (q := ((Nat.log2 k + 1 : Nat) : Int)) hk rfl Tryd.underlying5 Tryd.underlying3 (by rw [show (UInt8.ofNat (Nat.log2 k + 1)).toNat = Nat.log2 k + 1 by (have : (UInt8.ofNat (Nat.log2 k + 1)).toNat = (Nat.log2 k + 1) % 2 ^ 8 := rfl); omega]; exact i64 (by omega) (by omega)) _) fun a hk => ?_
      refine ls hk rfl rfl rfl (e_add (q := ((Nat.log2 m₀ + 1 : Nat) : Int)) hk rfl rfl (by rw [i64 (by omega) (by omega)]; omega) _) fun a hk => ?_
      refine ls hk rfl rfl rfl (e_assign hk rfl _) fun a hk => ?_
      refine lnil (hK16 _ _ ?_)
      refine wp_ret ?_
      exact ret1 hk rfl rfl ⟨rfl, hB⟩

set_option maxRecDepth 4000 in
set_option maxHeartbeats 1000000 in
theorem c136 (m₀ : Nat) (w0 : World) (h0 : 0 < m₀) (h1 : m₀ < 4294967296) : Calls Tryd.prog 136 #[.int .u64 (m₀ : Int)] w0 fun e w' => e = .returned (I (Nat.log2 m₀ + 1 : Nat)) ∧ Ext w0 w' := by
  refine start 8 Tryd.func136 rfl rfl rfl fun a hk => ?_
  have hB : Ext w0 w0 := Below.refl _ _
  refine wp_seq_k fun K1 hK1 => ?_
  refine wp_region_lit ?_
  refine ls hk rfl rfl rfl (e_assign hk rfl _) fun a hk => ?_
  refine lnil (hK1 _ _ ?_)
  refine wp_seq_k fun K2 hK2 => ?_
  refine cdF hk rfl ?_
  refine wp_skip (hK2 _ _ ?_)
  refine wp_seq_k fun K3 hK3 => ?_
  refine wp_region_lit ?_
  refine ls hk rfl rfl rfl (e_move hk rfl _) fun a hk => ?_
  refine la hk rfl (a_call hk rfl rfl (c_fn hk rfl ok138) (c138 m₀ _ h0 h1) ?_)
  rintro e w ⟨rfl, hE⟩
  refine ⟨_, rfl, fun a hk => ?_⟩
  have hB := ext_trans hB hE
  clear hE
  refine ls hk rfl rfl rfl (e_assign hk rfl _) fun a hk => ?_
  refine lnil (hK3 _ _ ?_)
  refine wp_ret ?_
  exact ret1 hk rfl rfl ⟨rfl, hB⟩

set_option maxRecDepth 4000 in
set_option maxHeartbeats 1000000 in
theorem c129 (n₀ : Nat) (w0 : World) (h0 : 2 ≤ n₀) (h1 : n₀ ≤ 2147483648) : Calls Tryd.prog 129 #[I n₀] w0 fun e w' => e = .returned (I (hlf n₀)) ∧ Ext w0 w' := by
  refine start 9 Tryd.func129 rfl rfl rfl fun a hk => ?_
  have hB : Ext w0 w0 := Below.refl _ _
  refine wp_seq_k fun K1 hK1 => ?_
  refine wp_region_lit ?_
  refine ls hk rfl rfl rfl (e_assign hk rfl _) fun a hk => ?_
  refine lnil (hK1 _ _ ?_)
  refine wp_seq_k fun K2 hK2 => ?_
  refine wp_region_lit ?_
  refine ls hk rfl rfl rfl (e_move hk rfl _) fun a hk => ?_
  refine ls hk rfl rfl rfl (e_sub (q := ((n₀ - 1 : Nat) : Int)) hk rfl rfl (by rw [i64 (by omega) (by omega)]; omega) _) fun a hk => ?_
  refine ls hk rfl rfl rfl (e_conv hk rfl Tryd.underlying3 Tryd.underlying89 (u64 (by omega) (by omega)) _) fun a hk => ?_
  refine la hk rfl (a_call hk rfl rfl (c_fn hk rfl ok136) (c136 (n₀ - 1) _ (by omega) (by omega)) ?_)
  rintro e w ⟨rfl, hE⟩
  refine ⟨_, rfl, fun a hk => ?_⟩
  have hB := ext_trans hB hE
  clear hE
  have hlg : Nat.log2 (n₀ - 1) < 32 := (Nat.log2_lt (by omega)).2 (by omega)
  refine ls hk rfl rfl rfl (e_sub (q := ((Nat.log2 (n₀ - 1) : Nat) : Int)) hk rfl rfl (by rw [i64 (by omega) (by omega)]; omega) _) fun a hk => ?_
  refine ls hk rfl rfl rfl (e_shl (q := ((hlf n₀ : Nat) : Int)) hk rfl rfl (by omega) (by have h5 := hlf_lt (n := n₀) h0; rw [Int.toNat_natCast, Nat.min_eq_left (by show _ ≤ 64; omega), show (1 : Int) * 2 ^ Nat.log2 (n₀ - 1) = ((hlf n₀ : Nat) : Int) by unfold hlf; push_cast; omega]; exact i64 (by omega) (by omega)) _) fun a hk => ?_
  refine ls hk rfl rfl rfl (e_assign hk rfl _) fun a hk => ?_
  refine lnil (hK2 _ _ ?_)
  refine wp_ret ?_
  exact ret1 hk rfl rfl ⟨rfl, hB⟩

set_option maxRecDepth 4000 in
set_option maxHeartbeats 1000000 in
theorem c108 (s : List UInt8) (w0 : World) (hG : GH w0) (hl : s.length ≤ 140737488351232) : Calls Tryd.prog 108 #[Str s] w0 fun e w' => e = .returned (D (leafS s)) ∧ Ext w0 w' := by
  refine start 6 Tryd.func108 rfl rfl rfl fun a hk => ?_
  have hB : Ext w0 w0 := Below.refl _ _
  refine wp_seq_k fun K1 hK1 => ?_
  refine wp_region_lit ?_
  refine la hk rfl (a_alloc hk rfl zr44 fun a w b2 hk G => ?_)
  have hg_b2 : w0.heap.size ≤ b2 := Nat.le_trans hB.size G.ge
  have hB := ext_trans hB G.ext
  have h_b2 := G.at_
  clear G
  refine lnil (hK1 _ _ ?_)
  refine wp_seq_k fun K2 hK2 => ?_
  refine wp_region_lit ?_
  refine ls hk rfl rfl rfl (e_move hk rfl _) fun a hk => ?_
  refine la hk rfl (a_lit (cells := #[Str (s)]) (zv := .string ByteArray.empty) (sz := 1) (by_ := 16) hk rfl rfl Tryd.underlying27 el9 (by decide) (by decide) (lit1s _ rfl _) rfl fun a w bl hk G => ?_)
  have n_b2_bl : b2 ≠ bl := G.ne h_b2
  have hg_bl : w0.heap.size ≤ bl := Nat.le_trans hB.size G.ge
  have h_b2 := ext_at G.ext h_b2
  have hB := ext_trans hB G.ext
  have h_bl := G.at_
  clear G
  refine la hk rfl (a_call hk rfl rfl (c_fn hk rfl ok35) (c35 1 [s] _ _ _ (rs_lit1 h_bl) (hG.ext hB) (by simp) (by simpa using hl)) ?_)
  rintro e w ⟨rfl, hE⟩
  refine ⟨_, rfl, fun a hk => ?_⟩
  have h_b2 := ext_at hE h_b2
  have h_bl := ext_at hE h_bl
  have hB := ext_trans hB hE
  clear hE
  refine la hk rfl (a_st44 (l := leafS s) hk rfl rfl (by simp) h_b2 rfl fun a w hk W => ?_)
  have h_bl := W.keep (Ne.symm n_b2_bl) h_bl
  have hB := W.below hB hg_b2
  have h_b2 := W.at_
  clear W
  refine lnil (hK2 _ _ ?_)
  refine wp_ret ?_
  exact ret44 (l := leafS s) hk rfl rfl h_b2 (by simp) ⟨rfl, hB⟩

set_option maxRecDepth 4000 in
set_option maxHeartbeats 1000000 in
theorem c94 (s : List UInt8) (w0 : World) (hGR : GR w0) (hl : s.length ≤ 140737488351232) : Calls Tryd.prog 94 #[Str s] w0 fun e w' => e = .returned (D (leafS s)) ∧ Ext w0 w' := by
  refine start 6 Tryd.func94 rfl rfl rfl fun a hk => ?_
  have hB : Ext w0 w0 := Below.refl _ _
  refine wp_seq_k fun K1 hK1 => ?_
  refine wp_region_lit ?_
  refine la hk rfl (a_alloc hk rfl zr44 fun a w b2 hk G => ?_)
  have hg_b2 : w0.heap.size ≤ b2 := Nat.le_trans hB.size G.ge
  have hB := ext_trans hB G.ext
  have h_b2 := G.at_
  clear G
  refine lnil (hK1 _ _ ?_)
  refine wp_seq_k fun K2 hK2 => ?_
  refine wp_region_lit ?_
  refine ls hk rfl rfl rfl (e_move hk rfl _) fun a hk => ?_
  refine la hk rfl (a_lit (cells := #[Str (s)]) (zv := .string ByteArray.empty) (sz := 1) (by_ := 16) hk rfl rfl Tryd.underlying27 el9 (by decide) (by decide) (lit1s _ rfl _) rfl fun a w bl hk G => ?_)
  have n_b2_bl : b2 ≠ bl := G.ne h_b2
  have hg_bl : w0.heap.size ≤ bl := Nat.le_trans hB.size G.ge
  have h_b2 := ext_at G.ext h_b2
  have hB := ext_trans hB G.ext
  have h_bl := G.at_
  clear G
  refine la hk rfl (a_call hk rfl rfl (c_fn hk rfl ok36) (c36 1 [s] _ _ _ (rs_lit1 h_bl) (hGR.ext hB) (by simp) (by have := length_encB s; simp only [List.map_cons, List.map_nil, List.flatten_cons, List.flatten_nil, List.append_nil]; omega) (by simpa using hl)) ?_)
  rintro e w ⟨rfl, hE⟩
  refine ⟨_, rfl, fun a hk => ?_⟩
  have h_b2 := ext_at hE h_b2
  have h_bl := ext_at hE h_bl
  have hB := ext_trans hB hE
  clear hE
  refine la hk rfl (a_st44 (l := leafS s) hk rfl rfl (by simp) h_b2 rfl fun a w hk W => ?_)
  have h_bl := W.keep (Ne.symm n_b2_bl) h_bl
  have hB := W.below hB hg_b2
  have h_b2 := W.at_
  clear W
  refine lnil (hK2 _ _ ?_)
  refine wp_ret ?_
  exact ret44 (l := leafS s) hk rfl rfl h_b2 (by simp) ⟨rfl, hB⟩

set_option maxRecDepth 4000 in
set_option maxHeartbeats 1000000 in
theorem c109 (l r : List UInt8) (w0 : World) (hG : GH w0) (hl : l.length = 16) (hr : r.length = 16) : Calls Tryd.prog 109 #[D l, D r] w0 fun e w' => e = .returned (D (nodeS l r)) ∧ Ext w0 w' := by
  refine start 11 Tryd.func109 rfl rfl rfl fun a hk => ?_
  have hB : Ext w0 w0 := Below.refl _ _
  refine wp_seq_k fun K1 hK1 => ?_
  refine wp_region_lit ?_
  refine la hk rfl (a_box hk rfl rfl fun a w b2 hk G => ?_)
  have hg_b2 : w0.heap.size ≤ b2 := Nat.le_trans hB.size G.ge
  have hB := ext_trans hB G.ext
  have h_b2 := G.at_
  clear G
  refine la hk rfl (a_box hk rfl rfl fun a w b3 hk G => ?_)
  have n_b2_b3 : b2 ≠ b3 := G.ne h_b2
  have hg_b3 : w0.heap.size ≤ b3 := Nat.le_trans hB.size G.ge
  have h_b2 := ext_at G.ext h_b2
  have hB := ext_trans hB G.ext
  have h_b3 := G.at_
  clear G
  refine la hk rfl (a_alloc hk rfl zr44 fun a w b4 hk G => ?_)
  have n_b2_b4 : b2 ≠ b4 := G.ne h_b2
  have n_b3_b4 : b3 ≠ b4 := G.ne h_b3
  have hg_b4 : w0.heap.size ≤ b4 := Nat.le_trans hB.size G.ge
  have h_b2 := ext_at G.ext h_b2
  have h_b3 := ext_at G.ext h_b3
  have hB := ext_trans hB G.ext
  have h_b4 := G.at_
  clear G
  refine lnil (hK1 _ _ ?_)
  refine wp_seq_k fun K2 hK2 => ?_
  refine wp_region_ok (fun _ => True) [0, 1, 0, 1, 2, 2, 2] mixed ?_
  have hB := hB.drew
  have h_b2 := ext_at (ext_drew w) h_b2
  have h_b3 := ext_at (ext_drew w) h_b3
  have h_b4 := ext_at (ext_drew w) h_b4
  refine d0 0 hk rfl (by kernel_rfl) rfl rfl rfl rfl (fun _ => e_slA hk rfl Tryd.underlying44 sz5 _) fun a hk => ?_
  refine d1 1 hk rfl (by kernel_rfl) rfl rfl rfl rfl (e_str hk rfl (rd_dig h_b2 hl) Tryd.underlying22 Tryd.underlying5 Tryd.underlying9) fun a hk => ?_
  refine d0 2 hk rfl (by kernel_rfl) rfl rfl rfl rfl (fun _ => e_slA hk rfl Tryd.underlying44 sz5 _) fun a hk => ?_
  refine d1 3 hk rfl (by kernel_rfl) rfl rfl rfl rfl (e_str hk rfl (rd_dig h_b3 hr) Tryd.underlying22 Tryd.underlying5 Tryd.underlying9) fun a hk => ?_
  refine da 4 hk rfl (by kernel_rfl) rfl rfl (a_lit (cells := #[Str (l), Str (r)]) (zv := .string ByteArray.empty) (sz := 1) (by_ := 16) hk rfl rfl Tryd.underlying27 el9 (by decide) (by decide) (lit2s _ _ rfl rfl _) rfl fun a w bl hk G => ?_)
  have n_b2_bl : b2 ≠ bl := G.ne h_b2
  have n_b3_bl : b3 ≠ bl := G.ne h_b3
  have n_b4_bl : b4 ≠ bl := G.ne h_b4
  have hg_bl : w0.heap.size ≤ bl := Nat.le_trans hB.size G.ge
  have h_b2 := ext_at G.ext h_b2
  have h_b3 := ext_at G.ext h_b3
  have h_b4 := ext_at G.ext h_b4
  have hB := ext_trans hB G.ext
  have h_bl := G.at_
  clear G
  refine da 5 hk rfl (by kernel_rfl) rfl rfl (a_call hk rfl rfl (c_fn hk rfl ok35) (c35 2 [l, r] _ _ _ (rs_lit2 h_bl) (hG.ext hB) (by simp) (by simp; omega)) ?_)
  rintro e w ⟨rfl, hE⟩
  refine ⟨_, rfl, fun a hk => ?_⟩
  have h_b2 := ext_at hE h_b2
  have h_b3 := ext_at hE h_b3
  have h_b4 := ext_at hE h_b4
  have h_bl := ext_at hE h_bl
  have hB := ext_trans hB hE
  clear hE
  refine da 6 hk rfl (by kernel_rfl) rfl rfl (a_st44 (l := nodeS l r) hk rfl rfl (by simp) h_b4 rfl fun a w hk W => ?_)
  have h_b2 := W.keep n_b2_b4 h_b2
  have h_b3 := W.keep n_b3_b4 h_b3
  have h_bl := W.keep (Ne.symm n_b4_bl) h_bl
  have hB := W.below hB hg_b4
  have h_b4 := W.at_
  clear W
  refine okFin (by kernel_rfl) (hK2 _ _ ?_)
  refine wp_ret ?_
  exact ret44 (l := nodeS l r) hk rfl rfl h_b4 (by simp) ⟨rfl, hB⟩

set_option maxRecDepth 4000 in
set_option maxHeartbeats 1000000 in
theorem c96 (l r : List UInt8) (w0 : World) (hGR : GR w0) (hl : l.length = 16) (hr : r.length = 16) : Calls Tryd.prog 96 #[D l, D r] w0 fun e w' => e = .returned (D (nodeS l r)) ∧ Ext w0 w' := by
  refine start 11 Tryd.func96 rfl rfl rfl fun a hk => ?_
  have hB : Ext w0 w0 := Below.refl _ _
  refine wp_seq_k fun K1 hK1 => ?_
  refine wp_region_lit ?_
  refine la hk rfl (a_box hk rfl rfl fun a w b2 hk G => ?_)
  have hg_b2 : w0.heap.size ≤ b2 := Nat.le_trans hB.size G.ge
  have hB := ext_trans hB G.ext
  have h_b2 := G.at_
  clear G
  refine la hk rfl (a_box hk rfl rfl fun a w b3 hk G => ?_)
  have n_b2_b3 : b2 ≠ b3 := G.ne h_b2
  have hg_b3 : w0.heap.size ≤ b3 := Nat.le_trans hB.size G.ge
  have h_b2 := ext_at G.ext h_b2
  have hB := ext_trans hB G.ext
  have h_b3 := G.at_
  clear G
  refine la hk rfl (a_alloc hk rfl zr44 fun a w b4 hk G => ?_)
  have n_b2_b4 : b2 ≠ b4 := G.ne h_b2
  have n_b3_b4 : b3 ≠ b4 := G.ne h_b3
  have hg_b4 : w0.heap.size ≤ b4 := Nat.le_trans hB.size G.ge
  have h_b2 := ext_at G.ext h_b2
  have h_b3 := ext_at G.ext h_b3
  have hB := ext_trans hB G.ext
  have h_b4 := G.at_
  clear G
  refine lnil (hK1 _ _ ?_)
  refine wp_seq_k fun K2 hK2 => ?_
  refine wp_region_ok (fun _ => True) [0, 1, 0, 1, 2, 2, 2] mixed ?_
  have hB := hB.drew
  have h_b2 := ext_at (ext_drew w) h_b2
  have h_b3 := ext_at (ext_drew w) h_b3
  have h_b4 := ext_at (ext_drew w) h_b4
  refine d0 0 hk rfl (by kernel_rfl) rfl rfl rfl rfl (fun _ => e_slA hk rfl Tryd.underlying44 sz5 _) fun a hk => ?_
  refine d1 1 hk rfl (by kernel_rfl) rfl rfl rfl rfl (e_str hk rfl (rd_dig h_b2 hl) Tryd.underlying22 Tryd.underlying5 Tryd.underlying9) fun a hk => ?_
  refine d0 2 hk rfl (by kernel_rfl) rfl rfl rfl rfl (fun _ => e_slA hk rfl Tryd.underlying44 sz5 _) fun a hk => ?_
  refine d1 3 hk rfl (by kernel_rfl) rfl rfl rfl rfl (e_str hk rfl (rd_dig h_b3 hr) Tryd.underlying22 Tryd.underlying5 Tryd.underlying9) fun a hk => ?_
  refine da 4 hk rfl (by kernel_rfl) rfl rfl (a_lit (cells := #[Str (l), Str (r)]) (zv := .string ByteArray.empty) (sz := 1) (by_ := 16) hk rfl rfl Tryd.underlying27 el9 (by decide) (by decide) (lit2s _ _ rfl rfl _) rfl fun a w bl hk G => ?_)
  have n_b2_bl : b2 ≠ bl := G.ne h_b2
  have n_b3_bl : b3 ≠ bl := G.ne h_b3
  have n_b4_bl : b4 ≠ bl := G.ne h_b4
  have hg_bl : w0.heap.size ≤ bl := Nat.le_trans hB.size G.ge
  have h_b2 := ext_at G.ext h_b2
  have h_b3 := ext_at G.ext h_b3
  have h_b4 := ext_at G.ext h_b4
  have hB := ext_trans hB G.ext
  have h_bl := G.at_
  clear G
  refine da 5 hk rfl (by kernel_rfl) rfl rfl (a_call hk rfl rfl (c_fn hk rfl ok36) (c36 2 [l, r] _ _ _ (rs_lit2 h_bl) (hGR.ext hB) (by simp) (by have h1 := length_encB l; have h2 := length_encB r; simp only [List.map_cons, List.map_nil, List.flatten_cons, List.flatten_nil, List.append_nil, List.length_append]; omega) (by simp; omega)) ?_)
  rintro e w ⟨rfl, hE⟩
  refine ⟨_, rfl, fun a hk => ?_⟩
  have h_b2 := ext_at hE h_b2
  have h_b3 := ext_at hE h_b3
  have h_b4 := ext_at hE h_b4
  have h_bl := ext_at hE h_bl
  have hB := ext_trans hB hE
  clear hE
  refine da 6 hk rfl (by kernel_rfl) rfl rfl (a_st44 (l := nodeS l r) hk rfl rfl (by simp) h_b4 rfl fun a w hk W => ?_)
  have h_b2 := W.keep n_b2_b4 h_b2
  have h_b3 := W.keep n_b3_b4 h_b3
  have h_bl := W.keep (Ne.symm n_b4_bl) h_bl
  have hB := W.below hB hg_b4
  have h_b4 := W.at_
  clear W
  refine okFin (by kernel_rfl) (hK2 _ _ ?_)
  refine wp_ret ?_
  exact ret44 (l := nodeS l r) hk rfl rfl h_b4 (by simp) ⟨rfl, hB⟩

set_option maxRecDepth 4000 in
set_option maxHeartbeats 1000000 in
theorem c59 (l : List UInt8) (w0 : World) (hl : l.length = 16) : Calls Tryd.prog 59 #[D l] w0 fun e w' => e = .returned (Str l) ∧ Ext w0 w' := by
  refine start 5 Tryd.func59 rfl rfl rfl fun a hk => ?_
  have hB : Ext w0 w0 := Below.refl _ _
  refine wp_seq_k fun K1 hK1 => ?_
  refine wp_region_lit ?_
  refine la hk rfl (a_box hk rfl rfl fun a w b1 hk G => ?_)
  have hg_b1 : w0.heap.size ≤ b1 := Nat.le_trans hB.size G.ge
  have hB := ext_trans hB G.ext
  have h_b1 := G.at_
  clear G
  refine ls hk rfl rfl rfl (e_assign hk rfl _) fun a hk => ?_
  refine lnil (hK1 _ _ ?_)
  refine wp_seq_k fun K2 hK2 => ?_
  refine wp_region_lit ?_
  refine ls hk rfl rfl rfl (e_slA hk rfl Tryd.underlying44 sz5 _) fun a hk => ?_
  refine ls hk rfl rfl rfl (e_str hk rfl (rd_dig h_b1 hl) Tryd.underlying22 Tryd.underlying5 Tryd.underlying9) fun a hk => ?_
  refine ls hk rfl rfl rfl (e_assign hk rfl _) fun a hk => ?_
  refine lnil (hK2 _ _ ?_)
  refine wp_ret ?_
  exact ret1 hk rfl rfl ⟨rfl, hB⟩

end Go.Proofs.YtidfbboalbchiaaDoor

namespace Go.Proofs.YtidfbboalbchiaaDoor
open Go Go.RowKit

/-- What stays: all but a set of blocks, which may depend on what memory holds; the set gains new blocks only. -/
structure Fra (Mut : World → Nat → Prop) (w w' : World) : Prop where
  os : w'.os = w.os
  tape : w'.tape = w.tape
  output : w'.output = w.output
  size : w.heap.size ≤ w'.heap.size
  keep : ∀ k, k < w.heap.size → ¬ Mut w k → w'.heap[k]? = w.heap[k]?
  mut_ : ∀ k, k < w.heap.size → Mut w' k → Mut w k
section
variable {Mut : World → Nat → Prop} {w0 w w' w'' : World}
theorem Fra.refl (Mut : World → Nat → Prop) (w : World) : Fra Mut w w := ⟨rfl, rfl, rfl, Nat.le_refl _, fun _ _ _ => rfl, fun _ _ h => h⟩
theorem Fra.trans (h : Fra Mut w w') (k : Fra Mut w' w'') : Fra Mut w w'' :=
  ⟨k.os.trans h.os, k.tape.trans h.tape, k.output.trans h.output, Nat.le_trans h.size k.size,
   fun i hi hm => (k.keep i (Nat.lt_of_lt_of_le hi h.size) (fun hh => hm (h.mut_ i hi hh))).trans (h.keep i hi hm),
   fun i hi hm => h.mut_ i hi (k.mut_ i (Nat.lt_of_lt_of_le hi h.size) hm)⟩
theorem Fra.ext (h : Ext w w') (hm : ∀ k, Mut w' k → Mut w k) : Fra Mut w w' := ⟨h.os, h.tape, h.output, h.size, fun k hk _ => h.block k hk, fun k _ hh => hm k hh⟩
theorem Fra.wrote {b : Nat} {o : Obj} (h : Fra Mut w0 w) (hW : Wrote w w' b o) (hb : w0.heap.size ≤ b) (hm : ∀ k, Mut w' k → Mut w k) : Fra Mut w0 w' :=
  ⟨hW.os.trans h.os, hW.tape.trans h.tape, hW.output.trans h.output, Nat.le_trans h.size (Nat.le_of_eq hW.size.symm),
   fun k hk hn => (hW.other k (by omega)).trans (h.keep k hk hn), fun k hk hh => h.mut_ k hk (hm k hh)⟩
theorem Fra.at_ {b : Nat} {o : Obj} (h : Fra Mut w w') (hm : ¬ Mut w b) (hb : w.heap[b]? = some o) : w'.heap[b]? = some o := by rw [h.keep b (heap_lt hb) hm]; exact hb
theorem Fra.below {C : Nat} (h : Fra Mut w w') (hB : Below C w0 w) (hC : C ≤ w.heap.size) (hm : ∀ k, k < C → ¬ Mut w k) : Below C w0 w' :=
  hB.trans ⟨h.os, h.tape, h.output, h.size, fun k hk => h.keep k (Nat.lt_of_lt_of_le hk hC) (hm k hk)⟩
end
theorem sz132c : (Tryd.prog.info? 132).map (·.size) = some 0 := sz132

set_option maxRecDepth 4000 in
set_option maxHeartbeats 1000000 in
theorem c105 {S X : Type} (enc : X → Array Value) (V : X → Prop) (henc : ∀ x, V x → (enc x).size = 16 ∧ ∀ u ∈ enc x, u.oneCell' = true) (jn : X → X → X)
    (Mut : World → Nat → Prop) (J : S → World → Prop) (G : Nat → Nat → Prop) (Spec : Nat → Nat → S → X → S → Prop) (Pre : Nat → Nat → S → Prop) (C₀ M : Nat) (hM : M ≤ 2147483648) (f₁ f₂ : FuncId) (cap₁ cap₂ : List Value) (hok1 : callOk Tryd.prog f₁ = true) (hok2 : callOk Tryd.prog f₂ = true)
    (hMx : ∀ s w w', J s w → Ext w w' → J s w' ∧ ∀ k, Mut w' k → Mut w k)
    (hMw : ∀ s w w' b o, J s w → C₀ ≤ b → ¬ Mut w b → Wrote w w' b o → J s w' ∧ ∀ k, Mut w' k → Mut w k)
    (hM0 : ∀ s w k, J s w → Mut w k → k < w.heap.size)
    (hpre1 : ∀ a b s, Pre a b s → 2 ≤ b - a → G a b → Pre a (a + hlf (b - a)) s) (hpre2 : ∀ a b s x s1, Pre a b s → 2 ≤ b - a → G a b → Spec a (a + hlf (b - a)) s x s1 → Pre (a + hlf (b - a)) b s1)
    (hstop : ∀ a b s w, a < b → b ≤ M → Pre a b s → J s w → C₀ ≤ w.heap.size → Calls Tryd.prog f₁ ([] ++ [I (a : Nat), I (b : Nat)] ++ cap₁).toArray w fun e w' => ∃ x bb s', e = .returned (.tuple #[.agg (enc x), .bool bb]) ∧ V x ∧ J s' w' ∧ Fra Mut w w' ∧ (bb = true → Spec a b s x s') ∧ (bb = false → s' = s ∧ 2 ≤ b - a ∧ G a b))
    (hjoin : ∀ x y s w, V x → V y → J s w → C₀ ≤ w.heap.size → Calls Tryd.prog f₂ ([] ++ [Value.agg (enc x), .agg (enc y)] ++ cap₂).toArray w fun e w' => e = .returned (.agg (enc (jn x y))) ∧ V (jn x y) ∧ J s w' ∧ Fra Mut w w')
    (hstep : ∀ a b s x s1 y s2, G a b → 2 ≤ b - a → Spec a (a + hlf (b - a)) s x s1 → Spec (a + hlf (b - a)) b s1 y s2 → Spec a b s (jn x y) s2) :
    ∀ n a₀ b₀ s w0, b₀ - a₀ = n → a₀ < b₀ → b₀ ≤ M → Pre a₀ b₀ s → J s w0 → C₀ ≤ w0.heap.size → Calls Tryd.prog 105 #[I (a₀ : Nat), I (b₀ : Nat), .func (.func f₁) #[] cap₁.toArray, .func (.func f₂) #[] cap₂.toArray] w0 fun e w' => ∃ x s', e = .returned (.agg (enc x)) ∧ V x ∧ J s' w' ∧ Fra Mut w0 w' ∧ Spec a₀ b₀ s x s' := by
  intro n
  induction n using Nat.strongRecOn with
  | _ n ih =>
  intro a₀ b₀ s w0 hn hab hbM hP hJ hC
  have hM31 := hM
  refine start 43 Tryd.func105 rfl rfl rfl fun a hk => ?_
  have hF := Fra.refl Mut w0
  clear hM
  refine wp_seq_k fun K1 hK1 => ?_
  refine wp_region_lit ?_
  refine la hk rfl (a_alloc hk rfl zr44 fun a w b8 hk G => ?_)
  have hM := hMx _ _ _ hJ G.ext
  have m_b8 : ¬ Mut w b8 := fun hh => absurd (hM0 _ _ _ hJ (hM.2 b8 hh)) (Nat.not_lt.2 G.ge)
  have hg_b8 : w0.heap.size ≤ b8 := Nat.le_trans hF.size G.ge
  have hF := hF.trans (Fra.ext G.ext hM.2)
  have hJ := hM.1
  clear hM
  have h_b8 := G.at_
  clear G
  refine lnil (hK1 _ _ ?_)
  refine wp_seq_k fun K2 hK2 => ?_
  refine wp_seq_k fun K3 hK3 => ?_
  refine wp_region_lit ?_
  refine ls hk rfl rfl rfl (e_move hk rfl _) fun a hk => ?_
  refine ls hk rfl rfl rfl (e_move hk rfl _) fun a hk => ?_
  refine ls hk rfl rfl rfl (e_move hk rfl _) fun a hk => ?_
  refine la hk rfl (a_call hk rfl rfl (c_val (f := f₁) (first := []) (captured := cap₁) hk rfl rfl hok1) (hstop a₀ b₀ s w (by omega) hbM hP hJ (Nat.le_trans hC hF.size)) ?_)
  rintro e w ⟨x, bb, s1, rfl, hV, hJ1, hE, hT, hN⟩
  refine ⟨_, rfl, fun a hk => ?_⟩
  have m2 : ¬ Mut w b8 := fun hh => m_b8 (hE.mut_ _ (heap_lt h_b8) hh)
  have h_b8 := hE.at_ m_b8 h_b8
  have m_b8 := m2
  clear m2
  have hF := hF.trans hE
  clear hJ
  have hJ := hJ1
  clear hE
  refine ls hk rfl rfl rfl (e_move hk rfl _) fun a hk => ?_
  refine ls hk rfl rfl rfl (e_ext hk rfl rfl _) fun a hk => ?_
  refine ls hk rfl rfl rfl (e_ext hk rfl rfl _) fun a hk => ?_
  refine la hk rfl (a_alloc hk rfl zr44 fun a w b9 hk G => ?_)
  have hM := hMx _ _ _ hJ G.ext
  have m_b9 : ¬ Mut w b9 := fun hh => absurd (hM0 _ _ _ hJ (hM.2 b9 hh)) (Nat.not_lt.2 G.ge)
  have n_b8_b9 : b8 ≠ b9 := G.ne h_b8
  have h_b8 := ext_at G.ext h_b8
  have m_b8 : ¬ Mut w b8 := fun hh => m_b8 (hM.2 _ hh)
  have hg_b9 : w0.heap.size ≤ b9 := Nat.le_trans hF.size G.ge
  have hF := hF.trans (Fra.ext G.ext hM.2)
  have hJ := hM.1
  clear hM
  have h_b9 := G.at_
  clear G
  refine la hk rfl (a_storeB hk rfl rfl (henc _ hV).2 (by rw [sz44, (henc _ hV).1]) h_b9 (by first | (rw [(henc _ hV).1]; rfl) | (rw [(henc _ hV).1, (henc _ hV).1])) fun a w hk W => ?_)
  have hM := hMw _ _ _ _ _ hJ (Nat.le_trans hC hg_b9) m_b9 W
  have h_b8 := W.keep n_b8_b9 h_b8
  have m_b8 : ¬ Mut w b8 := fun hh => m_b8 (hM.2 _ hh)
  have m_b9 : ¬ Mut w b9 := fun hh => m_b9 (hM.2 _ hh)
  have hF := hF.wrote W hg_b9 hM.2
  have hJ := hM.1
  clear hM
  have h_b9 := W.at_
  clear W
  refine ls hk rfl rfl rfl (e_assign hk rfl _) fun a hk => ?_
  refine lnil (hK3 _ _ ?_)
  refine wp_seq_k fun K4 hK4 => ?_
  refine wp_region_lit ?_
  refine ls hk rfl rfl rfl (e_move hk rfl _) fun a hk => ?_
  refine lnil (hK4 _ _ ?_)
  refine cdB hk rfl (fun hb => ?_) (fun hb => ?_)
  · subst hb
    have hT := hT rfl
    refine wp_seq_k fun K5 hK5 => ?_
    refine wp_region_lit ?_
    refine ls hk rfl rfl rfl (r_loadB hk rfl h_b9 Tryd.underlying44 rfl (by rw [sz44, (henc _ hV).1])) fun a hk => ?_
    refine la hk rfl (a_storeB hk rfl rfl (henc _ hV).2 (by rw [sz44, (henc _ hV).1]) h_b8 (by first | (rw [(henc _ hV).1]; rfl) | (rw [(henc _ hV).1, (henc _ hV).1])) fun a w hk W => ?_)
    have hM := hMw _ _ _ _ _ hJ (Nat.le_trans hC hg_b8) m_b8 W
    have m_b8 : ¬ Mut w b8 := fun hh => m_b8 (hM.2 _ hh)
    have h_b9 := W.keep (Ne.symm n_b8_b9) h_b9
    have m_b9 : ¬ Mut w b9 := fun hh => m_b9 (hM.2 _ hh)
    have hF := hF.wrote W hg_b8 hM.2
    have hJ := hM.1
    clear hM
    have h_b8 := W.at_
    clear W
    refine lnil (hK5 _ _ ?_)
    refine wp_ret ?_
    simp only [then_ret]
    exact retA hk rfl rfl h_b8 Tryd.underlying44 rfl (by rw [sz44, (henc _ hV).1]) ⟨x, s1, rfl, hV, hJ, hF, hT⟩
  · subst hb
    obtain ⟨hs1, h2, hG⟩ := hN rfl
    rw [hs1] at hJ
    clear hs1
    clear hT hN hV
    have hhp := hlf_pos (b₀ - a₀)
    have hhl := hlf_lt h2
    refine wp_skip (hK2 _ _ ?_)
    refine wp_seq_k fun K6 hK6 => ?_
    refine wp_region_lit ?_
    refine ls hk rfl rfl rfl (e_move hk rfl _) fun a hk => ?_
    refine ls hk rfl rfl rfl (e_move hk rfl _) fun a hk => ?_
    refine ls hk rfl rfl rfl (e_sub (q := ((b₀ - a₀ : Nat) : Int)) hk rfl rfl (by rw [i64 (by omega) (by omega)]; omega) _) fun a hk => ?_
    refine la hk rfl (a_call hk rfl rfl (c_fn hk rfl ok129) (c129 (b₀ - a₀) _ h2 (by omega)) ?_)
    rintro e w ⟨rfl, hE⟩
    refine ⟨_, rfl, fun a hk => ?_⟩
    have hM := hMx _ _ _ hJ hE
    have h_b8 := ext_at hE h_b8
    have m_b8 : ¬ Mut w b8 := fun hh => m_b8 (hM.2 _ hh)
    have h_b9 := ext_at hE h_b9
    have m_b9 : ¬ Mut w b9 := fun hh => m_b9 (hM.2 _ hh)
    have hF := hF.trans (Fra.ext hE hM.2)
    have hJ := hM.1
    clear hM
    clear hE
    refine ls hk rfl rfl rfl (e_assign hk rfl _) fun a hk => ?_
    refine lnil (hK6 _ _ ?_)
    refine wp_seq_k fun K7 hK7 => ?_
    refine wp_region_lit ?_
    refine ls hk rfl rfl rfl (e_move hk rfl _) fun a hk => ?_
    refine ls hk rfl rfl rfl (e_move hk rfl _) fun a hk => ?_
    refine ls hk rfl rfl rfl (e_move hk rfl _) fun a hk => ?_
    refine ls hk rfl rfl rfl (e_add (q := ((a₀ + hlf (b₀ - a₀) : Nat) : Int)) hk rfl rfl (by rw [i64 (by omega) (by omega)]; omega) _) fun a hk => ?_
    refine ls hk rfl rfl rfl (e_move hk rfl _) fun a hk => ?_
    refine ls hk rfl rfl rfl (e_move hk rfl _) fun a hk => ?_
    refine la hk rfl (a_call hk rfl rfl (c_fn hk rfl ok105) (ih _ (by omega) a₀ (a₀ + hlf (b₀ - a₀)) s _ rfl (by omega) (by omega) (hpre1 a₀ b₀ s hP h2 hG) hJ (Nat.le_trans hC hF.size)) ?_)
    rintro e w ⟨x, s2, rfl, hV, hJ1, hE, hT⟩
    refine ⟨_, rfl, fun a hk => ?_⟩
    have m2 : ¬ Mut w b8 := fun hh => m_b8 (hE.mut_ _ (heap_lt h_b8) hh)
    have h_b8 := hE.at_ m_b8 h_b8
    have m_b8 := m2
    clear m2
    have m2 : ¬ Mut w b9 := fun hh => m_b9 (hE.mut_ _ (heap_lt h_b9) hh)
    have h_b9 := hE.at_ m_b9 h_b9
    have m_b9 := m2
    clear m2
    have hF := hF.trans hE
    clear hJ
    have hJ := hJ1
    clear hE
    refine la hk rfl (a_alloc hk rfl zr44 fun a w b12 hk G => ?_)
    have hM := hMx _ _ _ hJ G.ext
    have m_b12 : ¬ Mut w b12 := fun hh => absurd (hM0 _ _ _ hJ (hM.2 b12 hh)) (Nat.not_lt.2 G.ge)
    have n_b8_b12 : b8 ≠ b12 := G.ne h_b8
    have h_b8 := ext_at G.ext h_b8
    have m_b8 : ¬ Mut w b8 := fun hh => m_b8 (hM.2 _ hh)
    have n_b9_b12 : b9 ≠ b12 := G.ne h_b9
    have h_b9 := ext_at G.ext h_b9
    have m_b9 : ¬ Mut w b9 := fun hh => m_b9 (hM.2 _ hh)
    have hg_b12 : w0.heap.size ≤ b12 := Nat.le_trans hF.size G.ge
    have hF := hF.trans (Fra.ext G.ext hM.2)
    have hJ := hM.1
    clear hM
    have h_b12 := G.at_
    clear G
    refine la hk rfl (a_storeB hk rfl rfl (henc _ hV).2 (by rw [sz44, (henc _ hV).1]) h_b12 (by first | (rw [(henc _ hV).1]; rfl) | (rw [(henc _ hV).1, (henc _ hV).1])) fun a w hk W => ?_)
    have hM := hMw _ _ _ _ _ hJ (Nat.le_trans hC hg_b12) m_b12 W
    have h_b8 := W.keep n_b8_b12 h_b8
    have m_b8 : ¬ Mut w b8 := fun hh => m_b8 (hM.2 _ hh)
    have h_b9 := W.keep n_b9_b12 h_b9
    have m_b9 : ¬ Mut w b9 := fun hh => m_b9 (hM.2 _ hh)
    have m_b12 : ¬ Mut w b12 := fun hh => m_b12 (hM.2 _ hh)
    have hF := hF.wrote W hg_b12 hM.2
    have hJ := hM.1
    clear hM
    have h_b12 := W.at_
    clear W
    refine lnil (hK7 _ _ ?_)
    refine wp_seq_k fun K8 hK8 => ?_
    refine wp_region_ok (fun w => w.heap[b12]? = some (.cells (enc x) 44 (0, 0))) [0, 3, 0, 0, 0, 0, 0, 0, 4, 4, 2] mixed ?_
    have hM := hMx _ _ _ hJ (ext_drew w)
    have h_b8 := ext_at (ext_drew w) h_b8
    have m_b8 : ¬ Mut w.drew b8 := fun hh => m_b8 (hM.2 _ hh)
    have h_b9 := ext_at (ext_drew w) h_b9
    have m_b9 : ¬ Mut w.drew b9 := fun hh => m_b9 (hM.2 _ hh)
    have h_b12 := ext_at (ext_drew w) h_b12
    have m_b12 : ¬ Mut w.drew b12 := fun hh => m_b12 (hM.2 _ hh)
    have hF := hF.trans (Fra.ext (ext_drew w) hM.2)
    have hJ := hM.1
    clear hM
    have hS : (fun w => w.heap[b12]? = some (.cells (enc x) 44 (0, 0))) w.drew := h_b12
    refine d0 0 hk rfl (by kernel_rfl) rfl rfl rfl rfl (fun _ => e_move hk rfl _) fun a hk => ?_
    refine d3 1 hk rfl (by kernel_rfl) rfl rfl rfl rfl hS (fun w hS => r_loadB hk rfl hS Tryd.underlying44 rfl (by rw [sz44, (henc _ hV).1])) fun a hk => ?_
    refine d0 2 hk rfl (by kernel_rfl) rfl rfl rfl rfl (fun _ => e_move hk rfl _) fun a hk => ?_
    refine d0 3 hk rfl (by kernel_rfl) rfl rfl rfl rfl (fun _ => e_move hk rfl _) fun a hk => ?_
    refine d0 4 hk rfl (by kernel_rfl) rfl rfl rfl rfl (fun _ => e_add (q := ((a₀ + hlf (b₀ - a₀) : Nat) : Int)) hk rfl rfl (by rw [i64 (by omega) (by omega)]; omega) _) fun a hk => ?_
    refine d0 5 hk rfl (by kernel_rfl) rfl rfl rfl rfl (fun _ => e_move hk rfl _) fun a hk => ?_
    refine d0 6 hk rfl (by kernel_rfl) rfl rfl rfl rfl (fun _ => e_move hk rfl _) fun a hk => ?_
    refine d0 7 hk rfl (by kernel_rfl) rfl rfl rfl rfl (fun _ => e_move hk rfl _) fun a hk => ?_
    refine da4 8 hk rfl (by kernel_rfl) rfl rfl hS (a_call hk rfl rfl (c_fn hk rfl ok105) (ih _ (by omega) (a₀ + hlf (b₀ - a₀)) b₀ s2 _ rfl (by omega) (by omega) (hpre2 a₀ b₀ s x s2 hP h2 hG hT) hJ (Nat.le_trans hC hF.size)) ?_)
    rintro e w ⟨y, s3, rfl, hVy, hJ1, hE, hTy⟩
    refine ⟨_, rfl, fun a hk => ⟨hE.at_ m_b12 hS, ?_⟩⟩
    have hS := hE.at_ m_b12 hS
    have m2 : ¬ Mut w b8 := fun hh => m_b8 (hE.mut_ _ (heap_lt h_b8) hh)
    have h_b8 := hE.at_ m_b8 h_b8
    have m_b8 := m2
    clear m2
    have m2 : ¬ Mut w b9 := fun hh => m_b9 (hE.mut_ _ (heap_lt h_b9) hh)
    have h_b9 := hE.at_ m_b9 h_b9
    have m_b9 := m2
    clear m2
    have m2 : ¬ Mut w b12 := fun hh => m_b12 (hE.mut_ _ (heap_lt h_b12) hh)
    have h_b12 := hE.at_ m_b12 h_b12
    have m_b12 := m2
    clear m2
    have hF := hF.trans hE
    clear hJ
    have hJ := hJ1
    clear hE
    refine da4 9 hk rfl (by kernel_rfl) rfl rfl hS (a_call hk rfl rfl (c_val (f := f₂) (first := []) (captured := cap₂) hk rfl rfl hok2) (hjoin x y s3 w hV hVy hJ (Nat.le_trans hC hF.size)) ?_)
    rintro e w ⟨rfl, hVj, hJ1, hE⟩
    refine ⟨_, rfl, fun a hk => ⟨hE.at_ m_b12 hS, ?_⟩⟩
    have hS := hE.at_ m_b12 hS
    have m2 : ¬ Mut w b8 := fun hh => m_b8 (hE.mut_ _ (heap_lt h_b8) hh)
    have h_b8 := hE.at_ m_b8 h_b8
    have m_b8 := m2
    clear m2
    have m2 : ¬ Mut w b9 := fun hh => m_b9 (hE.mut_ _ (heap_lt h_b9) hh)
    have h_b9 := hE.at_ m_b9 h_b9
    have m_b9 := m2
    clear m2
    have m2 : ¬ Mut w b12 := fun hh => m_b12 (hE.mut_ _ (heap_lt h_b12) hh)
    have h_b12 := hE.at_ m_b12 h_b12
    have m_b12 := m2
    clear m2
    have hF := hF.trans hE
    clear hJ
    have hJ := hJ1
    clear hE
    refine da 10 hk rfl (by kernel_rfl) rfl rfl (a_storeB hk rfl rfl (henc _ hVj).2 (by rw [sz44, (henc _ hVj).1]) h_b8 (by first | (rw [(henc _ hVj).1]; rfl) | (rw [(henc _ hVj).1, (henc _ hVj).1])) fun a w hk W => ?_)
    have hM := hMw _ _ _ _ _ hJ (Nat.le_trans hC hg_b8) m_b8 W
    have m_b8 : ¬ Mut w b8 := fun hh => m_b8 (hM.2 _ hh)
    have h_b9 := W.keep (Ne.symm n_b8_b9) h_b9
    have m_b9 : ¬ Mut w b9 := fun hh => m_b9 (hM.2 _ hh)
    have h_b12 := W.keep (Ne.symm n_b8_b12) h_b12
    have m_b12 : ¬ Mut w b12 := fun hh => m_b12 (hM.2 _ hh)
    have hF := hF.wrote W hg_b8 hM.2
    have hJ := hM.1
    clear hM
    have h_b8 := W.at_
    clear W
    refine okFin (by kernel_rfl) (hK8 _ _ ?_)
    refine wp_ret ?_
    exact retA hk rfl rfl h_b8 Tryd.underlying44 rfl (by rw [sz44, (henc _ hVj).1]) ⟨_, s3, rfl, hVj, hJ, hF, hstep a₀ b₀ s x s2 y s3 hG h2 hT hTy⟩

set_option maxRecDepth 4000 in
set_option maxHeartbeats 1000000 in
theorem c97 {S X : Type} (enc : X → Array Value) (V : X → Prop) (henc : ∀ x, V x → (enc x).size = 0 ∧ ∀ u ∈ enc x, u.oneCell' = true) (jn : X → X → X)
    (Mut : World → Nat → Prop) (J : S → World → Prop) (G : Nat → Nat → Prop) (Spec : Nat → Nat → S → X → S → Prop) (Pre : Nat → Nat → S → Prop) (C₀ M : Nat) (hM : M ≤ 2147483648) (f₁ f₂ : FuncId) (cap₁ cap₂ : List Value) (hok1 : callOk Tryd.prog f₁ = true) (hok2 : callOk Tryd.prog f₂ = true)
    (hMx : ∀ s w w', J s w → Ext w w' → J s w' ∧ ∀ k, Mut w' k → Mut w k)
    (hMw : ∀ s w w' b o, J s w → C₀ ≤ b → ¬ Mut w b → Wrote w w' b o → J s w' ∧ ∀ k, Mut w' k → Mut w k)
    (hM0 : ∀ s w k, J s w → Mut w k → k < w.heap.size)
    (hpre1 : ∀ a b s, Pre a b s → 2 ≤ b - a → G a b → Pre a (a + hlf (b - a)) s) (hpre2 : ∀ a b s x s1, Pre a b s → 2 ≤ b - a → G a b → Spec a (a + hlf (b - a)) s x s1 → Pre (a + hlf (b - a)) b s1)
    (hstop : ∀ a b s w, a < b → b ≤ M → Pre a b s → J s w → C₀ ≤ w.heap.size → Calls Tryd.prog f₁ ([] ++ [I (a : Nat), I (b : Nat)] ++ cap₁).toArray w fun e w' => ∃ x bb s', e = .returned (.tuple #[.agg (enc x), .bool bb]) ∧ V x ∧ J s' w' ∧ Fra Mut w w' ∧ (bb = true → Spec a b s x s') ∧ (bb = false → s' = s ∧ 2 ≤ b - a ∧ G a b))
    (hjoin : ∀ x y s w, V x → V y → J s w → C₀ ≤ w.heap.size → Calls Tryd.prog f₂ ([] ++ [Value.agg (enc x), .agg (enc y)] ++ cap₂).toArray w fun e w' => e = .returned (.agg (enc (jn x y))) ∧ V (jn x y) ∧ J s w' ∧ Fra Mut w w')
    (hstep : ∀ a b s x s1 y s2, G a b → 2 ≤ b - a → Spec a (a + hlf (b - a)) s x s1 → Spec (a + hlf (b - a)) b s1 y s2 → Spec a b s (jn x y) s2) :
    ∀ n a₀ b₀ s w0, b₀ - a₀ = n → a₀ < b₀ → b₀ ≤ M → Pre a₀ b₀ s → J s w0 → C₀ ≤ w0.heap.size → Calls Tryd.prog 97 #[I (a₀ : Nat), I (b₀ : Nat), .func (.func f₁) #[] cap₁.toArray, .func (.func f₂) #[] cap₂.toArray] w0 fun e w' => ∃ x s', e = .returned (.agg (enc x)) ∧ V x ∧ J s' w' ∧ Fra Mut w0 w' ∧ Spec a₀ b₀ s x s' := by
  intro n
  induction n using Nat.strongRecOn with
  | _ n ih =>
  intro a₀ b₀ s w0 hn hab hbM hP hJ hC
  have hM31 := hM
  refine start 43 Tryd.func97 rfl rfl rfl fun a hk => ?_
  have hF := Fra.refl Mut w0
  clear hM
  refine wp_seq_k fun K1 hK1 => ?_
  refine wp_region_lit ?_
  refine la hk rfl (a_alloc hk rfl zr132 fun a w b8 hk G => ?_)
  have hM := hMx _ _ _ hJ G.ext
  have m_b8 : ¬ Mut w b8 := fun hh => absurd (hM0 _ _ _ hJ (hM.2 b8 hh)) (Nat.not_lt.2 G.ge)
  have hg_b8 : w0.heap.size ≤ b8 := Nat.le_trans hF.size G.ge
  have hF := hF.trans (Fra.ext G.ext hM.2)
  have hJ := hM.1
  clear hM
  have h_b8 := G.at_
  clear G
  refine lnil (hK1 _ _ ?_)
  refine wp_seq_k fun K2 hK2 => ?_
  refine wp_seq_k fun K3 hK3 => ?_
  refine wp_region_lit ?_
  refine ls hk rfl rfl rfl (e_move hk rfl _) fun a hk => ?_
  refine ls hk rfl rfl rfl (e_move hk rfl _) fun a hk => ?_
  refine ls hk rfl rfl rfl (e_move hk rfl _) fun a hk => ?_
  refine la hk rfl (a_call hk rfl rfl (c_val (f := f₁) (first := []) (captured := cap₁) hk rfl rfl hok1) (hstop a₀ b₀ s w (by omega) hbM hP hJ (Nat.le_trans hC hF.size)) ?_)
  rintro e w ⟨x, bb, s1, rfl, hV, hJ1, hE, hT, hN⟩
  refine ⟨_, rfl, fun a hk => ?_⟩
  have m2 : ¬ Mut w b8 := fun hh => m_b8 (hE.mut_ _ (heap_lt h_b8) hh)
  have h_b8 := hE.at_ m_b8 h_b8
  have m_b8 := m2
  clear m2
  have hF := hF.trans hE
  clear hJ
  have hJ := hJ1
  clear hE
  refine ls hk rfl rfl rfl (e_move hk rfl _) fun a hk => ?_
  refine ls hk rfl rfl rfl (e_ext hk rfl rfl _) fun a hk => ?_
  refine ls hk rfl rfl rfl (e_ext hk rfl rfl _) fun a hk => ?_
  refine la hk rfl (a_alloc hk rfl zr132 fun a w b9 hk G => ?_)
  have hM := hMx _ _ _ hJ G.ext
  have m_b9 : ¬ Mut w b9 := fun hh => absurd (hM0 _ _ _ hJ (hM.2 b9 hh)) (Nat.not_lt.2 G.ge)
  have n_b8_b9 : b8 ≠ b9 := G.ne h_b8
  have h_b8 := ext_at G.ext h_b8
  have m_b8 : ¬ Mut w b8 := fun hh => m_b8 (hM.2 _ hh)
  have hg_b9 : w0.heap.size ≤ b9 := Nat.le_trans hF.size G.ge
  have hF := hF.trans (Fra.ext G.ext hM.2)
  have hJ := hM.1
  clear hM
  have h_b9 := G.at_
  clear G
  refine la hk rfl (a_storeB hk rfl rfl (henc _ hV).2 (by rw [sz132, (henc _ hV).1]) h_b9 (by first | (rw [(henc _ hV).1]; rfl) | (rw [(henc _ hV).1, (henc _ hV).1])) fun a w hk W => ?_)
  have hM := hMw _ _ _ _ _ hJ (Nat.le_trans hC hg_b9) m_b9 W
  have h_b8 := W.keep n_b8_b9 h_b8
  have m_b8 : ¬ Mut w b8 := fun hh => m_b8 (hM.2 _ hh)
  have m_b9 : ¬ Mut w b9 := fun hh => m_b9 (hM.2 _ hh)
  have hF := hF.wrote W hg_b9 hM.2
  have hJ := hM.1
  clear hM
  have h_b9 := W.at_
  clear W
  refine ls hk rfl rfl rfl (e_assign hk rfl _) fun a hk => ?_
  refine lnil (hK3 _ _ ?_)
  refine wp_seq_k fun K4 hK4 => ?_
  refine wp_region_lit ?_
  refine ls hk rfl rfl rfl (e_move hk rfl _) fun a hk => ?_
  refine lnil (hK4 _ _ ?_)
  refine cdB hk rfl (fun hb => ?_) (fun hb => ?_)
  · subst hb
    have hT := hT rfl
    refine wp_seq_k fun K5 hK5 => ?_
    refine wp_region_lit ?_
    refine ls hk rfl rfl rfl (r_loadB hk rfl h_b9 Tryd.underlying132 rfl (by rw [sz132, (henc _ hV).1])) fun a hk => ?_
    refine la hk rfl (a_storeB hk rfl rfl (henc _ hV).2 (by rw [sz132, (henc _ hV).1]) h_b8 (by first | (rw [(henc _ hV).1]; rfl) | (rw [(henc _ hV).1, (henc _ hV).1])) fun a w hk W => ?_)
    have hM := hMw _ _ _ _ _ hJ (Nat.le_trans hC hg_b8) m_b8 W
    have m_b8 : ¬ Mut w b8 := fun hh => m_b8 (hM.2 _ hh)
    have h_b9 := W.keep (Ne.symm n_b8_b9) h_b9
    have m_b9 : ¬ Mut w b9 := fun hh => m_b9 (hM.2 _ hh)
    have hF := hF.wrote W hg_b8 hM.2
    have hJ := hM.1
    clear hM
    have h_b8 := W.at_
    clear W
    refine lnil (hK5 _ _ ?_)
    refine wp_ret ?_
    simp only [then_ret]
    exact retA hk rfl rfl h_b8 Tryd.underlying132 rfl (by rw [sz132, (henc _ hV).1]) ⟨x, s1, rfl, hV, hJ, hF, hT⟩
  · subst hb
    obtain ⟨hs1, h2, hG⟩ := hN rfl
    rw [hs1] at hJ
    clear hs1
    clear hT hN hV
    have hhp := hlf_pos (b₀ - a₀)
    have hhl := hlf_lt h2
    refine wp_skip (hK2 _ _ ?_)
    refine wp_seq_k fun K6 hK6 => ?_
    refine wp_region_lit ?_
    refine ls hk rfl rfl rfl (e_move hk rfl _) fun a hk => ?_
    refine ls hk rfl rfl rfl (e_move hk rfl _) fun a hk => ?_
    refine ls hk rfl rfl rfl (e_sub (q := ((b₀ - a₀ : Nat) : Int)) hk rfl rfl (by rw [i64 (by omega) (by omega)]; omega) _) fun a hk => ?_
    refine la hk rfl (a_call hk rfl rfl (c_fn hk rfl ok129) (c129 (b₀ - a₀) _ h2 (by omega)) ?_)
    rintro e w ⟨rfl, hE⟩
    refine ⟨_, rfl, fun a hk => ?_⟩
    have hM := hMx _ _ _ hJ hE
    have h_b8 := ext_at hE h_b8
    have m_b8 : ¬ Mut w b8 := fun hh => m_b8 (hM.2 _ hh)
    have h_b9 := ext_at hE h_b9
    have m_b9 : ¬ Mut w b9 := fun hh => m_b9 (hM.2 _ hh)
    have hF := hF.trans (Fra.ext hE hM.2)
    have hJ := hM.1
    clear hM
    clear hE
    refine ls hk rfl rfl rfl (e_assign hk rfl _) fun a hk => ?_
    refine lnil (hK6 _ _ ?_)
    refine wp_seq_k fun K7 hK7 => ?_
    refine wp_region_lit ?_
    refine ls hk rfl rfl rfl (e_move hk rfl _) fun a hk => ?_
    refine ls hk rfl rfl rfl (e_move hk rfl _) fun a hk => ?_
    refine ls hk rfl rfl rfl (e_move hk rfl _) fun a hk => ?_
    refine ls hk rfl rfl rfl (e_add (q := ((a₀ + hlf (b₀ - a₀) : Nat) : Int)) hk rfl rfl (by rw [i64 (by omega) (by omega)]; omega) _) fun a hk => ?_
    refine ls hk rfl rfl rfl (e_move hk rfl _) fun a hk => ?_
    refine ls hk rfl rfl rfl (e_move hk rfl _) fun a hk => ?_
    refine la hk rfl (a_call hk rfl rfl (c_fn hk rfl ok97) (ih _ (by omega) a₀ (a₀ + hlf (b₀ - a₀)) s _ rfl (by omega) (by omega) (hpre1 a₀ b₀ s hP h2 hG) hJ (Nat.le_trans hC hF.size)) ?_)
    rintro e w ⟨x, s2, rfl, hV, hJ1, hE, hT⟩
    refine ⟨_, rfl, fun a hk => ?_⟩
    have m2 : ¬ Mut w b8 := fun hh => m_b8 (hE.mut_ _ (heap_lt h_b8) hh)
    have h_b8 := hE.at_ m_b8 h_b8
    have m_b8 := m2
    clear m2
    have m2 : ¬ Mut w b9 := fun hh => m_b9 (hE.mut_ _ (heap_lt h_b9) hh)
    have h_b9 := hE.at_ m_b9 h_b9
    have m_b9 := m2
    clear m2
    have hF := hF.trans hE
    clear hJ
    have hJ := hJ1
    clear hE
    refine la hk rfl (a_alloc hk rfl zr132 fun a w b12 hk G => ?_)
    have hM := hMx _ _ _ hJ G.ext
    have m_b12 : ¬ Mut w b12 := fun hh => absurd (hM0 _ _ _ hJ (hM.2 b12 hh)) (Nat.not_lt.2 G.ge)
    have n_b8_b12 : b8 ≠ b12 := G.ne h_b8
    have h_b8 := ext_at G.ext h_b8
    have m_b8 : ¬ Mut w b8 := fun hh => m_b8 (hM.2 _ hh)
    have n_b9_b12 : b9 ≠ b12 := G.ne h_b9
    have h_b9 := ext_at G.ext h_b9
    have m_b9 : ¬ Mut w b9 := fun hh => m_b9 (hM.2 _ hh)
    have hg_b12 : w0.heap.size ≤ b12 := Nat.le_trans hF.size G.ge
    have hF := hF.trans (Fra.ext G.ext hM.2)
    have hJ := hM.1
    clear hM
    have h_b12 := G.at_
    clear G
    refine la hk rfl (a_storeB hk rfl rfl (henc _ hV).2 (by rw [sz132, (henc _ hV).1]) h_b12 (by first | (rw [(henc _ hV).1]; rfl) | (rw [(henc _ hV).1, (henc _ hV).1])) fun a w hk W => ?_)
    have hM := hMw _ _ _ _ _ hJ (Nat.le_trans hC hg_b12) m_b12 W
    have h_b8 := W.keep n_b8_b12 h_b8
    have m_b8 : ¬ Mut w b8 := fun hh => m_b8 (hM.2 _ hh)
    have h_b9 := W.keep n_b9_b12 h_b9
    have m_b9 : ¬ Mut w b9 := fun hh => m_b9 (hM.2 _ hh)
    have m_b12 : ¬ Mut w b12 := fun hh => m_b12 (hM.2 _ hh)
    have hF := hF.wrote W hg_b12 hM.2
    have hJ := hM.1
    clear hM
    have h_b12 := W.at_
    clear W
    refine lnil (hK7 _ _ ?_)
    refine wp_seq_k fun K8 hK8 => ?_
    refine wp_region_ok (fun w => w.heap[b12]? = some (.cells (enc x) 132 (0, 0))) [0, 3, 0, 0, 0, 0, 0, 0, 4, 4, 2] mixed ?_
    have hM := hMx _ _ _ hJ (ext_drew w)
    have h_b8 := ext_at (ext_drew w) h_b8
    have m_b8 : ¬ Mut w.drew b8 := fun hh => m_b8 (hM.2 _ hh)
    have h_b9 := ext_at (ext_drew w) h_b9
    have m_b9 : ¬ Mut w.drew b9 := fun hh => m_b9 (hM.2 _ hh)
    have h_b12 := ext_at (ext_drew w) h_b12
    have m_b12 : ¬ Mut w.drew b12 := fun hh => m_b12 (hM.2 _ hh)
    have hF := hF.trans (Fra.ext (ext_drew w) hM.2)
    have hJ := hM.1
    clear hM
    have hS : (fun w => w.heap[b12]? = some (.cells (enc x) 132 (0, 0))) w.drew := h_b12
    refine d0 0 hk rfl (by kernel_rfl) rfl rfl rfl rfl (fun _ => e_move hk rfl _) fun a hk => ?_
    refine d3 1 hk rfl (by kernel_rfl) rfl rfl rfl rfl hS (fun w hS => r_loadB hk rfl hS Tryd.underlying132 rfl (by rw [sz132, (henc _ hV).1])) fun a hk => ?_
    refine d0 2 hk rfl (by kernel_rfl) rfl rfl rfl rfl (fun _ => e_move hk rfl _) fun a hk => ?_
    refine d0 3 hk rfl (by kernel_rfl) rfl rfl rfl rfl (fun _ => e_move hk rfl _) fun a hk => ?_
    refine d0 4 hk rfl (by kernel_rfl) rfl rfl rfl rfl (fun _ => e_add (q := ((a₀ + hlf (b₀ - a₀) : Nat) : Int)) hk rfl rfl (by rw [i64 (by omega) (by omega)]; omega) _) fun a hk => ?_
    refine d0 5 hk rfl (by kernel_rfl) rfl rfl rfl rfl (fun _ => e_move hk rfl _) fun a hk => ?_
    refine d0 6 hk rfl (by kernel_rfl) rfl rfl rfl rfl (fun _ => e_move hk rfl _) fun a hk => ?_
    refine d0 7 hk rfl (by kernel_rfl) rfl rfl rfl rfl (fun _ => e_move hk rfl _) fun a hk => ?_
    refine da4 8 hk rfl (by kernel_rfl) rfl rfl hS (a_call hk rfl rfl (c_fn hk rfl ok97) (ih _ (by omega) (a₀ + hlf (b₀ - a₀)) b₀ s2 _ rfl (by omega) (by omega) (hpre2 a₀ b₀ s x s2 hP h2 hG hT) hJ (Nat.le_trans hC hF.size)) ?_)
    rintro e w ⟨y, s3, rfl, hVy, hJ1, hE, hTy⟩
    refine ⟨_, rfl, fun a hk => ⟨hE.at_ m_b12 hS, ?_⟩⟩
    have hS := hE.at_ m_b12 hS
    have m2 : ¬ Mut w b8 := fun hh => m_b8 (hE.mut_ _ (heap_lt h_b8) hh)
    have h_b8 := hE.at_ m_b8 h_b8
    have m_b8 := m2
    clear m2
    have m2 : ¬ Mut w b9 := fun hh => m_b9 (hE.mut_ _ (heap_lt h_b9) hh)
    have h_b9 := hE.at_ m_b9 h_b9
    have m_b9 := m2
    clear m2
    have m2 : ¬ Mut w b12 := fun hh => m_b12 (hE.mut_ _ (heap_lt h_b12) hh)
    have h_b12 := hE.at_ m_b12 h_b12
    have m_b12 := m2
    clear m2
    have hF := hF.trans hE
    clear hJ
    have hJ := hJ1
    clear hE
    refine da4 9 hk rfl (by kernel_rfl) rfl rfl hS (a_call hk rfl rfl (c_val (f := f₂) (first := []) (captured := cap₂) hk rfl rfl hok2) (hjoin x y s3 w hV hVy hJ (Nat.le_trans hC hF.size)) ?_)
    rintro e w ⟨rfl, hVj, hJ1, hE⟩
    refine ⟨_, rfl, fun a hk => ⟨hE.at_ m_b12 hS, ?_⟩⟩
    have hS := hE.at_ m_b12 hS
    have m2 : ¬ Mut w b8 := fun hh => m_b8 (hE.mut_ _ (heap_lt h_b8) hh)
    have h_b8 := hE.at_ m_b8 h_b8
    have m_b8 := m2
    clear m2
    have m2 : ¬ Mut w b9 := fun hh => m_b9 (hE.mut_ _ (heap_lt h_b9) hh)
    have h_b9 := hE.at_ m_b9 h_b9
    have m_b9 := m2
    clear m2
    have m2 : ¬ Mut w b12 := fun hh => m_b12 (hE.mut_ _ (heap_lt h_b12) hh)
    have h_b12 := hE.at_ m_b12 h_b12
    have m_b12 := m2
    clear m2
    have hF := hF.trans hE
    clear hJ
    have hJ := hJ1
    clear hE
    refine da 10 hk rfl (by kernel_rfl) rfl rfl (a_storeB hk rfl rfl (henc _ hVj).2 (by rw [sz132, (henc _ hVj).1]) h_b8 (by first | (rw [(henc _ hVj).1]; rfl) | (rw [(henc _ hVj).1, (henc _ hVj).1])) fun a w hk W => ?_)
    have hM := hMw _ _ _ _ _ hJ (Nat.le_trans hC hg_b8) m_b8 W
    have m_b8 : ¬ Mut w b8 := fun hh => m_b8 (hM.2 _ hh)
    have h_b9 := W.keep (Ne.symm n_b8_b9) h_b9
    have m_b9 : ¬ Mut w b9 := fun hh => m_b9 (hM.2 _ hh)
    have h_b12 := W.keep (Ne.symm n_b8_b12) h_b12
    have m_b12 : ¬ Mut w b12 := fun hh => m_b12 (hM.2 _ hh)
    have hF := hF.wrote W hg_b8 hM.2
    have hJ := hM.1
    clear hM
    have h_b8 := W.at_
    clear W
    refine okFin (by kernel_rfl) (hK8 _ _ ?_)
    refine wp_ret ?_
    exact retA hk rfl rfl h_b8 Tryd.underlying132 rfl (by rw [sz132, (henc _ hVj).1]) ⟨_, s3, rfl, hVj, hJ, hF, hstep a₀ b₀ s x s2 y s3 hG h2 hT hTy⟩

set_option maxRecDepth 4000 in
set_option maxHeartbeats 1000000 in
theorem c112 {S X : Type} (enc : X → Array Value) (V : X → Prop) (henc : ∀ x, V x → (enc x).size = 33 ∧ ∀ u ∈ enc x, u.oneCell' = true) (jn : X → X → X)
    (Mut : World → Nat → Prop) (J : S → World → Prop) (G : Nat → Nat → Prop) (Spec : Nat → Nat → S → X → S → Prop) (Pre : Nat → Nat → S → Prop) (C₀ M : Nat) (hM : M ≤ 2147483648) (f₁ f₂ : FuncId) (cap₁ cap₂ : List Value) (hok1 : callOk Tryd.prog f₁ = true) (hok2 : callOk Tryd.prog f₂ = true)
    (hMx : ∀ s w w', J s w → Ext w w' → J s w' ∧ ∀ k, Mut w' k → Mut w k)
    (hMw : ∀ s w w' b o, J s w → C₀ ≤ b → ¬ Mut w b → Wrote w w' b o → J s w' ∧ ∀ k, Mut w' k → Mut w k)
    (hM0 : ∀ s w k, J s w → Mut w k → k < w.heap.size)
    (hpre1 : ∀ a b s, Pre a b s → 2 ≤ b - a → G a b → Pre a (a + hlf (b - a)) s) (hpre2 : ∀ a b s x s1, Pre a b s → 2 ≤ b - a → G a b → Spec a (a + hlf (b - a)) s x s1 → Pre (a + hlf (b - a)) b s1)
    (hstop : ∀ a b s w, a < b → b ≤ M → Pre a b s → J s w → C₀ ≤ w.heap.size → Calls Tryd.prog f₁ ([] ++ [I (a : Nat), I (b : Nat)] ++ cap₁).toArray w fun e w' => ∃ x bb s', e = .returned (.tuple #[.agg (enc x), .bool bb]) ∧ V x ∧ J s' w' ∧ Fra Mut w w' ∧ (bb = true → Spec a b s x s') ∧ (bb = false → s' = s ∧ 2 ≤ b - a ∧ G a b))
    (hjoin : ∀ x y s w, V x → V y → J s w → C₀ ≤ w.heap.size → Calls Tryd.prog f₂ ([] ++ [Value.agg (enc x), .agg (enc y)] ++ cap₂).toArray w fun e w' => e = .returned (.agg (enc (jn x y))) ∧ V (jn x y) ∧ J s w' ∧ Fra Mut w w')
    (hstep : ∀ a b s x s1 y s2, G a b → 2 ≤ b - a → Spec a (a + hlf (b - a)) s x s1 → Spec (a + hlf (b - a)) b s1 y s2 → Spec a b s (jn x y) s2) :
    ∀ n a₀ b₀ s w0, b₀ - a₀ = n → a₀ < b₀ → b₀ ≤ M → Pre a₀ b₀ s → J s w0 → C₀ ≤ w0.heap.size → Calls Tryd.prog 112 #[I (a₀ : Nat), I (b₀ : Nat), .func (.func f₁) #[] cap₁.toArray, .func (.func f₂) #[] cap₂.toArray] w0 fun e w' => ∃ x s', e = .returned (.agg (enc x)) ∧ V x ∧ J s' w' ∧ Fra Mut w0 w' ∧ Spec a₀ b₀ s x s' := by
  intro n
  induction n using Nat.strongRecOn with
  | _ n ih =>
  intro a₀ b₀ s w0 hn hab hbM hP hJ hC
  have hM31 := hM
  refine start 43 Tryd.func112 rfl rfl rfl fun a hk => ?_
  have hF := Fra.refl Mut w0
  clear hM
  refine wp_seq_k fun K1 hK1 => ?_
  refine wp_region_lit ?_
  refine la hk rfl (a_alloc hk rfl zr147 fun a w b8 hk G => ?_)
  have hM := hMx _ _ _ hJ G.ext
  have m_b8 : ¬ Mut w b8 := fun hh => absurd (hM0 _ _ _ hJ (hM.2 b8 hh)) (Nat.not_lt.2 G.ge)
  have hg_b8 : w0.heap.size ≤ b8 := Nat.le_trans hF.size G.ge
  have hF := hF.trans (Fra.ext G.ext hM.2)
  have hJ := hM.1
  clear hM
  have h_b8 := G.at_
  clear G
  refine lnil (hK1 _ _ ?_)
  refine wp_seq_k fun K2 hK2 => ?_
  refine wp_seq_k fun K3 hK3 => ?_
  refine wp_region_lit ?_
  refine ls hk rfl rfl rfl (e_move hk rfl _) fun a hk => ?_
  refine ls hk rfl rfl rfl (e_move hk rfl _) fun a hk => ?_
  refine ls hk rfl rfl rfl (e_move hk rfl _) fun a hk => ?_
  refine la hk rfl (a_call hk rfl rfl (c_val (f := f₁) (first := []) (captured := cap₁) hk rfl rfl hok1) (hstop a₀ b₀ s w (by omega) hbM hP hJ (Nat.le_trans hC hF.size)) ?_)
  rintro e w ⟨x, bb, s1, rfl, hV, hJ1, hE, hT, hN⟩
  refine ⟨_, rfl, fun a hk => ?_⟩
  have m2 : ¬ Mut w b8 := fun hh => m_b8 (hE.mut_ _ (heap_lt h_b8) hh)
  have h_b8 := hE.at_ m_b8 h_b8
  have m_b8 := m2
  clear m2
  have hF := hF.trans hE
  clear hJ
  have hJ := hJ1
  clear hE
  refine ls hk rfl rfl rfl (e_move hk rfl _) fun a hk => ?_
  refine ls hk rfl rfl rfl (e_ext hk rfl rfl _) fun a hk => ?_
  refine ls hk rfl rfl rfl (e_ext hk rfl rfl _) fun a hk => ?_
  refine la hk rfl (a_alloc hk rfl zr147 fun a w b9 hk G => ?_)
  have hM := hMx _ _ _ hJ G.ext
  have m_b9 : ¬ Mut w b9 := fun hh => absurd (hM0 _ _ _ hJ (hM.2 b9 hh)) (Nat.not_lt.2 G.ge)
  have n_b8_b9 : b8 ≠ b9 := G.ne h_b8
  have h_b8 := ext_at G.ext h_b8
  have m_b8 : ¬ Mut w b8 := fun hh => m_b8 (hM.2 _ hh)
  have hg_b9 : w0.heap.size ≤ b9 := Nat.le_trans hF.size G.ge
  have hF := hF.trans (Fra.ext G.ext hM.2)
  have hJ := hM.1
  clear hM
  have h_b9 := G.at_
  clear G
  refine la hk rfl (a_storeB hk rfl rfl (henc _ hV).2 (by rw [sz147, (henc _ hV).1]) h_b9 (by first | (rw [(henc _ hV).1]; rfl) | (rw [(henc _ hV).1, (henc _ hV).1])) fun a w hk W => ?_)
  have hM := hMw _ _ _ _ _ hJ (Nat.le_trans hC hg_b9) m_b9 W
  have h_b8 := W.keep n_b8_b9 h_b8
  have m_b8 : ¬ Mut w b8 := fun hh => m_b8 (hM.2 _ hh)
  have m_b9 : ¬ Mut w b9 := fun hh => m_b9 (hM.2 _ hh)
  have hF := hF.wrote W hg_b9 hM.2
  have hJ := hM.1
  clear hM
  have h_b9 := W.at_
  clear W
  refine ls hk rfl rfl rfl (e_assign hk rfl _) fun a hk => ?_
  refine lnil (hK3 _ _ ?_)
  refine wp_seq_k fun K4 hK4 => ?_
  refine wp_region_lit ?_
  refine ls hk rfl rfl rfl (e_move hk rfl _) fun a hk => ?_
  refine lnil (hK4 _ _ ?_)
  refine cdB hk rfl (fun hb => ?_) (fun hb => ?_)
  · subst hb
    have hT := hT rfl
    refine wp_seq_k fun K5 hK5 => ?_
    refine wp_region_lit ?_
    refine ls hk rfl rfl rfl (r_loadB hk rfl h_b9 Tryd.underlying147 rfl (by rw [sz147, (henc _ hV).1])) fun a hk => ?_
    refine la hk rfl (a_storeB hk rfl rfl (henc _ hV).2 (by rw [sz147, (henc _ hV).1]) h_b8 (by first | (rw [(henc _ hV).1]; rfl) | (rw [(henc _ hV).1, (henc _ hV).1])) fun a w hk W => ?_)
    have hM := hMw _ _ _ _ _ hJ (Nat.le_trans hC hg_b8) m_b8 W
    have m_b8 : ¬ Mut w b8 := fun hh => m_b8 (hM.2 _ hh)
    have h_b9 := W.keep (Ne.symm n_b8_b9) h_b9
    have m_b9 : ¬ Mut w b9 := fun hh => m_b9 (hM.2 _ hh)
    have hF := hF.wrote W hg_b8 hM.2
    have hJ := hM.1
    clear hM
    have h_b8 := W.at_
    clear W
    refine lnil (hK5 _ _ ?_)
    refine wp_ret ?_
    simp only [then_ret]
    exact retA hk rfl rfl h_b8 Tryd.underlying147 rfl (by rw [sz147, (henc _ hV).1]) ⟨x, s1, rfl, hV, hJ, hF, hT⟩
  · subst hb
    obtain ⟨hs1, h2, hG⟩ := hN rfl
    rw [hs1] at hJ
    clear hs1
    clear hT hN hV
    have hhp := hlf_pos (b₀ - a₀)
    have hhl := hlf_lt h2
    refine wp_skip (hK2 _ _ ?_)
    refine wp_seq_k fun K6 hK6 => ?_
    refine wp_region_lit ?_
    refine ls hk rfl rfl rfl (e_move hk rfl _) fun a hk => ?_
    refine ls hk rfl rfl rfl (e_move hk rfl _) fun a hk => ?_
    refine ls hk rfl rfl rfl (e_sub (q := ((b₀ - a₀ : Nat) : Int)) hk rfl rfl (by rw [i64 (by omega) (by omega)]; omega) _) fun a hk => ?_
    refine la hk rfl (a_call hk rfl rfl (c_fn hk rfl ok129) (c129 (b₀ - a₀) _ h2 (by omega)) ?_)
    rintro e w ⟨rfl, hE⟩
    refine ⟨_, rfl, fun a hk => ?_⟩
    have hM := hMx _ _ _ hJ hE
    have h_b8 := ext_at hE h_b8
    have m_b8 : ¬ Mut w b8 := fun hh => m_b8 (hM.2 _ hh)
    have h_b9 := ext_at hE h_b9
    have m_b9 : ¬ Mut w b9 := fun hh => m_b9 (hM.2 _ hh)
    have hF := hF.trans (Fra.ext hE hM.2)
    have hJ := hM.1
    clear hM
    clear hE
    refine ls hk rfl rfl rfl (e_assign hk rfl _) fun a hk => ?_
    refine lnil (hK6 _ _ ?_)
    refine wp_seq_k fun K7 hK7 => ?_
    refine wp_region_lit ?_
    refine ls hk rfl rfl rfl (e_move hk rfl _) fun a hk => ?_
    refine ls hk rfl rfl rfl (e_move hk rfl _) fun a hk => ?_
    refine ls hk rfl rfl rfl (e_move hk rfl _) fun a hk => ?_
    refine ls hk rfl rfl rfl (e_add (q := ((a₀ + hlf (b₀ - a₀) : Nat) : Int)) hk rfl rfl (by rw [i64 (by omega) (by omega)]; omega) _) fun a hk => ?_
    refine ls hk rfl rfl rfl (e_move hk rfl _) fun a hk => ?_
    refine ls hk rfl rfl rfl (e_move hk rfl _) fun a hk => ?_
    refine la hk rfl (a_call hk rfl rfl (c_fn hk rfl ok112) (ih _ (by omega) a₀ (a₀ + hlf (b₀ - a₀)) s _ rfl (by omega) (by omega) (hpre1 a₀ b₀ s hP h2 hG) hJ (Nat.le_trans hC hF.size)) ?_)
    rintro e w ⟨x, s2, rfl, hV, hJ1, hE, hT⟩
    refine ⟨_, rfl, fun a hk => ?_⟩
    have m2 : ¬ Mut w b8 := fun hh => m_b8 (hE.mut_ _ (heap_lt h_b8) hh)
    have h_b8 := hE.at_ m_b8 h_b8
    have m_b8 := m2
    clear m2
    have m2 : ¬ Mut w b9 := fun hh => m_b9 (hE.mut_ _ (heap_lt h_b9) hh)
    have h_b9 := hE.at_ m_b9 h_b9
    have m_b9 := m2
    clear m2
    have hF := hF.trans hE
    clear hJ
    have hJ := hJ1
    clear hE
    refine la hk rfl (a_alloc hk rfl zr147 fun a w b12 hk G => ?_)
    have hM := hMx _ _ _ hJ G.ext
    have m_b12 : ¬ Mut w b12 := fun hh => absurd (hM0 _ _ _ hJ (hM.2 b12 hh)) (Nat.not_lt.2 G.ge)
    have n_b8_b12 : b8 ≠ b12 := G.ne h_b8
    have h_b8 := ext_at G.ext h_b8
    have m_b8 : ¬ Mut w b8 := fun hh => m_b8 (hM.2 _ hh)
    have n_b9_b12 : b9 ≠ b12 := G.ne h_b9
    have h_b9 := ext_at G.ext h_b9
    have m_b9 : ¬ Mut w b9 := fun hh => m_b9 (hM.2 _ hh)
    have hg_b12 : w0.heap.size ≤ b12 := Nat.le_trans hF.size G.ge
    have hF := hF.trans (Fra.ext G.ext hM.2)
    have hJ := hM.1
    clear hM
    have h_b12 := G.at_
    clear G
    refine la hk rfl (a_storeB hk rfl rfl (henc _ hV).2 (by rw [sz147, (henc _ hV).1]) h_b12 (by first | (rw [(henc _ hV).1]; rfl) | (rw [(henc _ hV).1, (henc _ hV).1])) fun a w hk W => ?_)
    have hM := hMw _ _ _ _ _ hJ (Nat.le_trans hC hg_b12) m_b12 W
    have h_b8 := W.keep n_b8_b12 h_b8
    have m_b8 : ¬ Mut w b8 := fun hh => m_b8 (hM.2 _ hh)
    have h_b9 := W.keep n_b9_b12 h_b9
    have m_b9 : ¬ Mut w b9 := fun hh => m_b9 (hM.2 _ hh)
    have m_b12 : ¬ Mut w b12 := fun hh => m_b12 (hM.2 _ hh)
    have hF := hF.wrote W hg_b12 hM.2
    have hJ := hM.1
    clear hM
    have h_b12 := W.at_
    clear W
    refine lnil (hK7 _ _ ?_)
    refine wp_seq_k fun K8 hK8 => ?_
    refine wp_region_ok (fun w => w.heap[b12]? = some (.cells (enc x) 147 (0, 0))) [0, 3, 0, 0, 0, 0, 0, 0, 4, 4, 2] mixed ?_
    have hM := hMx _ _ _ hJ (ext_drew w)
    have h_b8 := ext_at (ext_drew w) h_b8
    have m_b8 : ¬ Mut w.drew b8 := fun hh => m_b8 (hM.2 _ hh)
    have h_b9 := ext_at (ext_drew w) h_b9
    have m_b9 : ¬ Mut w.drew b9 := fun hh => m_b9 (hM.2 _ hh)
    have h_b12 := ext_at (ext_drew w) h_b12
    have m_b12 : ¬ Mut w.drew b12 := fun hh => m_b12 (hM.2 _ hh)
    have hF := hF.trans (Fra.ext (ext_drew w) hM.2)
    have hJ := hM.1
    clear hM
    have hS : (fun w => w.heap[b12]? = some (.cells (enc x) 147 (0, 0))) w.drew := h_b12
    refine d0 0 hk rfl (by kernel_rfl) rfl rfl rfl rfl (fun _ => e_move hk rfl _) fun a hk => ?_
    refine d3 1 hk rfl (by kernel_rfl) rfl rfl rfl rfl hS (fun w hS => r_loadB hk rfl hS Tryd.underlying147 rfl (by rw [sz147, (henc _ hV).1])) fun a hk => ?_
    refine d0 2 hk rfl (by kernel_rfl) rfl rfl rfl rfl (fun _ => e_move hk rfl _) fun a hk => ?_
    refine d0 3 hk rfl (by kernel_rfl) rfl rfl rfl rfl (fun _ => e_move hk rfl _) fun a hk => ?_
    refine d0 4 hk rfl (by kernel_rfl) rfl rfl rfl rfl (fun _ => e_add (q := ((a₀ + hlf (b₀ - a₀) : Nat) : Int)) hk rfl rfl (by rw [i64 (by omega) (by omega)]; omega) _) fun a hk => ?_
    refine d0 5 hk rfl (by kernel_rfl) rfl rfl rfl rfl (fun _ => e_move hk rfl _) fun a hk => ?_
    refine d0 6 hk rfl (by kernel_rfl) rfl rfl rfl rfl (fun _ => e_move hk rfl _) fun a hk => ?_
    refine d0 7 hk rfl (by kernel_rfl) rfl rfl rfl rfl (fun _ => e_move hk rfl _) fun a hk => ?_
    refine da4 8 hk rfl (by kernel_rfl) rfl rfl hS (a_call hk rfl rfl (c_fn hk rfl ok112) (ih _ (by omega) (a₀ + hlf (b₀ - a₀)) b₀ s2 _ rfl (by omega) (by omega) (hpre2 a₀ b₀ s x s2 hP h2 hG hT) hJ (Nat.le_trans hC hF.size)) ?_)
    rintro e w ⟨y, s3, rfl, hVy, hJ1, hE, hTy⟩
    refine ⟨_, rfl, fun a hk => ⟨hE.at_ m_b12 hS, ?_⟩⟩
    have hS := hE.at_ m_b12 hS
    have m2 : ¬ Mut w b8 := fun hh => m_b8 (hE.mut_ _ (heap_lt h_b8) hh)
    have h_b8 := hE.at_ m_b8 h_b8
    have m_b8 := m2
    clear m2
    have m2 : ¬ Mut w b9 := fun hh => m_b9 (hE.mut_ _ (heap_lt h_b9) hh)
    have h_b9 := hE.at_ m_b9 h_b9
    have m_b9 := m2
    clear m2
    have m2 : ¬ Mut w b12 := fun hh => m_b12 (hE.mut_ _ (heap_lt h_b12) hh)
    have h_b12 := hE.at_ m_b12 h_b12
    have m_b12 := m2
    clear m2
    have hF := hF.trans hE
    clear hJ
    have hJ := hJ1
    clear hE
    refine da4 9 hk rfl (by kernel_rfl) rfl rfl hS (a_call hk rfl rfl (c_val (f := f₂) (first := []) (captured := cap₂) hk rfl rfl hok2) (hjoin x y s3 w hV hVy hJ (Nat.le_trans hC hF.size)) ?_)
    rintro e w ⟨rfl, hVj, hJ1, hE⟩
    refine ⟨_, rfl, fun a hk => ⟨hE.at_ m_b12 hS, ?_⟩⟩
    have hS := hE.at_ m_b12 hS
    have m2 : ¬ Mut w b8 := fun hh => m_b8 (hE.mut_ _ (heap_lt h_b8) hh)
    have h_b8 := hE.at_ m_b8 h_b8
    have m_b8 := m2
    clear m2
    have m2 : ¬ Mut w b9 := fun hh => m_b9 (hE.mut_ _ (heap_lt h_b9) hh)
    have h_b9 := hE.at_ m_b9 h_b9
    have m_b9 := m2
    clear m2
    have m2 : ¬ Mut w b12 := fun hh => m_b12 (hE.mut_ _ (heap_lt h_b12) hh)
    have h_b12 := hE.at_ m_b12 h_b12
    have m_b12 := m2
    clear m2
    have hF := hF.trans hE
    clear hJ
    have hJ := hJ1
    clear hE
    refine da 10 hk rfl (by kernel_rfl) rfl rfl (a_storeB hk rfl rfl (henc _ hVj).2 (by rw [sz147, (henc _ hVj).1]) h_b8 (by first | (rw [(henc _ hVj).1]; rfl) | (rw [(henc _ hVj).1, (henc _ hVj).1])) fun a w hk W => ?_)
    have hM := hMw _ _ _ _ _ hJ (Nat.le_trans hC hg_b8) m_b8 W
    have m_b8 : ¬ Mut w b8 := fun hh => m_b8 (hM.2 _ hh)
    have h_b9 := W.keep (Ne.symm n_b8_b9) h_b9
    have m_b9 : ¬ Mut w b9 := fun hh => m_b9 (hM.2 _ hh)
    have h_b12 := W.keep (Ne.symm n_b8_b12) h_b12
    have m_b12 : ¬ Mut w b12 := fun hh => m_b12 (hM.2 _ hh)
    have hF := hF.wrote W hg_b8 hM.2
    have hJ := hM.1
    clear hM
    have h_b8 := W.at_
    clear W
    refine okFin (by kernel_rfl) (hK8 _ _ ?_)
    refine wp_ret ?_
    exact retA hk rfl rfl h_b8 Tryd.underlying147 rfl (by rw [sz147, (henc _ hVj).1]) ⟨_, s3, rfl, hVj, hJ, hF, hstep a₀ b₀ s x s2 y s3 hG h2 hT hTy⟩

end Go.Proofs.YtidfbboalbchiaaDoor
