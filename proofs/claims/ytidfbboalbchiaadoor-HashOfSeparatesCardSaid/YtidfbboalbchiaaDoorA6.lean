/- The walks of wire.Int and wire.Bytes: the encodings of an integer and of a byte string. -/
import Derived.Test.YtidfbboalbchiaaDoorA5
import Derived.Test.YtidfbboalbchiaaDoorWire
namespace Go.Proofs.YtidfbboalbchiaaDoor
open Go Go.RowKit

theorem byteOf_nat (n : Nat) : byteOf (n : Int) = UInt8.ofNat n := by
  apply UInt8.toNat.inj
  have h1 : (byteOf (n : Int)).toNat = ((n : Int) % 256).toNat % 2 ^ 8 := rfl
  have h2 : (UInt8.ofNat n).toNat = n % 2 ^ 8 := rfl
  omega
theorem u_cpl (m : Nat) (h : m < 18446744073709551616) : IntKind.u64.wrap ((BitVec.ofInt IntKind.u64.bits IntKind.u64.max ^^^ BitVec.ofInt IntKind.u64.bits (m : Int)).toNat : Int) = ((18446744073709551615 - m : Nat) : Int) := by
  have e : (BitVec.ofInt IntKind.u64.bits IntKind.u64.max ^^^ BitVec.ofInt IntKind.u64.bits (m : Int)).toNat = 18446744073709551615 - m := by
    show (BitVec.ofInt 64 IntKind.u64.max ^^^ BitVec.ofInt 64 (m : Int)).toNat = _
    rw [show BitVec.ofInt 64 IntKind.u64.max = BitVec.allOnes 64 from by decide, BitVec.allOnes_xor, BitVec.toNat_not, BitVec.toNat_ofInt]
    omega
  rw [e, wrap64u]; omega
theorem u_shr8 (m s : Nat) (h : s < 8) : ((m : Int)).fdiv (2 ^ min (8 * s) IntKind.u64.bits) = ((m / 256 ^ s : Nat) : Int) := by
  rw [u_shr m (8 * s) (by omega), Nat.pow_mul]
theorem lit_byte (b : UInt8) {w w' : World} {bl : Nat} (hG : Grew w w' bl (.cells #[B b] 5)) : Rd w' (some ⟨bl, 0, none⟩) 1 1 1 ([b].map B) :=
  Rd.of_block hG.at_ rfl (Nat.le_refl _) (fun i hi => by simp at hi; subst hi; rfl)

set_option maxRecDepth 4000 in
set_option maxHeartbeats 1000000 in
theorem c78 (n₀ : Int) (w0 : World) (h0 : -9223372036854775808 ≤ n₀) (h1 : n₀ ≤ 9223372036854775807) :
    Calls Tryd.prog 78 #[I n₀] w0 fun e w' => ∃ ad c, e = .returned (.slice ad (encI n₀).length c) ∧ w'.ownsRow w0.heap.size 5 1 (.slice ad (encI n₀).length c) (encI n₀).length ((encI n₀).map B) ∧ Ext w0 w' := by
  have hm : mag n₀ < 18446744073709551616 := by unfold mag; split <;> omega
  refine start 47 Tryd.func78 rfl rfl rfl fun a hk => ?_
  refine wp_seq_k fun K1 hK1 => ?_
  refine wp_region_lit ?_
  refine ls hk rfl rfl rfl (e_assign hk rfl _) fun a hk => ?_
  refine lnil (hK1 _ _ ?_)
  refine wp_scope_straight ?_
  refine wp_seq_k fun K2 hK2 => ?_
  have hE : Ext w0 w0 := Below.refl _ _
  refine wp_region_lit ?_
  refine ls hk rfl rfl rfl (e_move hk rfl _) fun a hk => ?_
  refine ls hk rfl rfl rfl (e_conv hk rfl Tryd.underlying3 Tryd.underlying32 rfl _) fun a hk => ?_
  refine ls hk rfl rfl rfl (e_assign hk rfl _) fun a hk => ?_
  refine ls hk rfl rfl rfl (e_assign hk rfl _) fun a hk => ?_
  refine lnil (hK2 _ _ ?_)
  refine wp_seq_k fun K3 hK3 => ?_
  have hJ3 : ∀ (a : Act) (w : World), Kn a 47 [(2, .slice none 0 0), (3, .int .u64 (mag n₀ : Int)), (4, B (flip n₀))] ∧ Ext w0 w → K3 a w := by
    intro a w ⟨hk, hE⟩
    refine hK3 _ _ ?_
    refine wp_seq_k fun K4 hK4 => ?_
    refine wp_region_lit ?_
    refine ls hk rfl rfl rfl (e_assign hk rfl _) fun a hk => ?_
    refine lnil (hK4 _ _ ?_)
    refine wp_seq_k fun K5 hK5 => ?_
    refine wp_label (hK5 _ _ ?_)
    refine wp_seq_k fun K6 hK6 => ?_
    have hJ6 : ∀ (a : Act) (w : World), Kn a 47 [(2, .slice none 0 0), (3, .int .u64 (mag n₀ : Int)), (4, B (flip n₀)), (5, I (nb (mag n₀)))] ∧ Ext w0 w → K6 a w := by
      intro a w ⟨hk, hE⟩
      refine hK6 _ _ ?_
      refine wp_seq_k fun K7 hK7 => ?_
      have hnb := nb_le (mag n₀)
      refine wp_region_lit ?_
      refine ls hk rfl rfl rfl (e_move hk rfl _) fun a hk => ?_
      refine ls hk rfl rfl rfl (e_add hk rfl rfl (i64 (by omega) (by omega)) _) fun a hk => ?_
      refine ls hk rfl rfl rfl (e_conv hk rfl Tryd.underlying3 Tryd.underlying5 (i_b _) _) fun a hk => ?_
      refine ls hk rfl rfl rfl (e_move hk rfl _) fun a hk => ?_
      refine ls hk rfl rfl rfl (e_xor hk rfl rfl (b_xor _ _) _) fun a hk => ?_
      refine la hk rfl (a_lit (cells := #[B (byteOf (128 + (nb (mag n₀) : Int)) ^^^ flip n₀)]) (zv := .int .u8 0) (sz := 1) (by_ := 1) hk rfl rfl Tryd.underlying22 el5 (by decide) (by decide) (lit1 _ _ rfl) rfl fun a w bl hk GL => ?_)
      have hB : Below w0.heap.size w0 w := ext_trans hE GL.ext
      have hown := own_mono (lit_own (n := 1) (sz := 1) GL rfl (by decide)) hE.size
      have hCC := hB.size
      clear GL
      generalize hn : nb (mag n₀) = k at hk hown
      have hk8 : k ≤ 8 := by rw [← hn]; exact nb_le _
      have hown : w.ownsRow w0.heap.size 5 1 (.slice (some ⟨bl, 0, none⟩) (1 + 0) 1) (1 + 0) (((UInt8.ofNat (128 + k) ^^^ flip n₀) :: (digs (mag n₀) (flip n₀)).take 0).map B) := by
        rw [show byteOf (128 + (k : Int)) = UInt8.ofNat (128 + k) from byteOf_nat (128 + k)] at hown
        exact hown
      refine ls hk rfl rfl rfl (e_assign hk rfl _) fun a hk => ?_
      refine lnil (hK7 _ _ ?_)
      refine wp_seq_k fun K8 hK8 => ?_
      refine wp_seq_k fun K9 hK9 => ?_
      refine wp_region_lit ?_
      refine ls hk rfl rfl rfl (e_move hk rfl _) fun a hk => ?_
      refine ls hk rfl rfl rfl (e_sub (q := (k : Int) - 1 - ((0 : Nat) : Int)) hk rfl rfl (by rw [i64 (by omega) (by omega)]; omega) _) fun a hk => ?_
      refine ls hk rfl rfl rfl (e_assign hk rfl _) fun a hk => ?_
      refine lnil (hK9 _ _ ?_)
      refine wp_block ?_
      refine loopN (fun n a w => ∃ (j : Nat) (ad : Option Addr) (c : Nat), n = k - j ∧ j ≤ k ∧ Kn a 47 [(3, .int .u64 (mag n₀ : Int)), (4, B (flip n₀)), (6, .slice ad (1 + j) c), (7, I ((k : Int) - 1 - (j : Int)))] ∧ Below w0.heap.size w0 w ∧ w0.heap.size ≤ w.heap.size ∧ w.ownsRow w0.heap.size 5 1 (.slice ad (1 + j) c) (1 + j) (((UInt8.ofNat (128 + k) ^^^ flip n₀) :: (digs (mag n₀) (flip n₀)).take j).map B)) (k) ?_ fun n a w hI => ?_
      · exact ⟨0, _, _, rfl, by omega, hk.sub _ ⟨rfl, rfl, rfl, rfl, trivial⟩, hB, hCC, hown⟩
      clear hB hown hCC
      obtain ⟨j, ad, c, rfl, hj, hk, hB, hCC, hown⟩ := hI
      refine wp_seq_k fun K10 hK10 => ?_
      refine wp_seq_k fun K11 hK11 => ?_
      refine wp_region_lit ?_
      refine ls hk rfl rfl rfl (e_move hk rfl _) fun a hk => ?_
      refine ls hk rfl rfl rfl (e_geq hk rfl rfl rfl _) fun a hk => ?_
      refine lnil (hK11 _ _ ?_)
      refine cdB hk rfl (fun hb => ?_) (fun hb => ?_)
      · have hjk : j < k := by have := of_decide_eq_true hb; omega
        refine wp_skip (hK10 _ _ ?_)
        refine wp_seq_k fun K12 hK12 => ?_
        refine wp_block ?_
        refine wp_region_lit ?_
        refine ls hk rfl rfl rfl (e_move hk rfl _) fun a hk => ?_
        refine ls hk rfl rfl rfl (e_move hk rfl _) fun a hk => ?_
        refine ls hk rfl rfl rfl (e_move hk rfl _) fun a hk => ?_
        refine ls hk rfl rfl rfl (e_mul (q := ((8 * (k - 1 - j) : Nat) : Int)) hk rfl rfl (by rw [i64 (by omega) (by omega)]; omega) _) fun a hk => ?_
        refine ls hk rfl rfl rfl (e_shr hk rfl rfl (by omega) (u_shr8 _ (k - 1 - j) (by omega)) _) fun a hk => ?_
        refine ls hk rfl rfl rfl (e_conv hk rfl Tryd.underlying32 Tryd.underlying5 (u_b _) _) fun a hk => ?_
        refine ls hk rfl rfl rfl (e_move hk rfl _) fun a hk => ?_
        refine ls hk rfl rfl rfl (e_xor hk rfl rfl (b_xor _ _) _) fun a hk => ?_
        refine la hk rfl (a_lit (cells := #[B (UInt8.ofNat (mag n₀ / 256 ^ (k - 1 - j) % 256) ^^^ flip n₀)]) (zv := .int .u8 0) (sz := 1) (by_ := 1) hk rfl rfl Tryd.underlying22 el5 (by decide) (by decide) (lit1 _ _ rfl) rfl fun a w bl hk GL => ?_)
        have hB := ext_trans hB GL.ext
        have hown := own_ext hown GL.ext
        have hRd := lit_byte _ GL
        have hCC := Nat.le_trans hCC GL.ext.size
        clear GL
        refine la hk rfl (a_app hk rfl rfl hown rfl hRd (bytes_one _) Tryd.underlying22 el5 rfl (by decide) (by omega) (by omega) hCC fun a w v hk hown' hKp => ?_)
        have hB := kept_below hKp hB hown (Nat.le_refl _) hCC
        have hCC := Nat.le_trans hCC hKp.size
        clear hown hKp hRd
        obtain ⟨ad, c, rfl, _, _⟩ := Rd.of_own hown'
        have hown : w.ownsRow w0.heap.size 5 1 (.slice ad (1 + (j + 1)) c) (1 + (j + 1)) (((UInt8.ofNat (128 + k) ^^^ flip n₀) :: (digs (mag n₀) (flip n₀)).take (j + 1)).map B) := by
          rw [digs_take _ _ _ (by omega), hn, ← List.cons_append, List.map_append]; exact hown'
        clear hown'
        refine ls hk rfl rfl rfl (e_assign hk rfl _) fun a hk => ?_
        refine lnil (hK12 _ _ ?_)
        refine wp_region_lit ?_
        refine ls hk rfl rfl rfl (e_move hk rfl _) fun a hk => ?_
        refine ls hk rfl rfl rfl (e_sub (q := (k : Int) - 1 - ((j + 1 : Nat) : Int)) hk rfl rfl (by rw [i64 (by omega) (by omega)]; omega) _) fun a hk => ?_
        refine ls hk rfl rfl rfl (e_assign hk rfl _) fun a hk => ?_
        refine lnil (show ∃ m : Nat, m < _ ∧ _ from ⟨k - (j + 1), by omega, j + 1, ad, c, rfl, by omega, hk.sub _ ⟨rfl, rfl, rfl, rfl, trivial⟩, hB, hCC, hown⟩)
      · have hjk : j = k := by have := of_decide_eq_false hb; omega
        subst hjk
        refine wp_exit (hK8 _ _ ?_)
        refine wp_seq_k fun K13 hK13 => ?_
        refine wp_region_lit ?_
        refine ls hk rfl rfl rfl (e_move hk rfl _) fun a hk => ?_
        refine ls hk rfl rfl rfl (e_assign hk rfl _) fun a hk => ?_
        refine lnil (hK13 _ _ ?_)
        refine wp_ret ?_
        rw [Exit.noGoto_ret]
        refine ret1 hk rfl rfl ⟨ad, c, ?_, ?_, hB⟩
        · rw [length_encI, hn]
        · rw [length_encI, hn]
          have e : encI n₀ = (UInt8.ofNat (128 + j) ^^^ flip n₀) :: (digs (mag n₀) (flip n₀)).take j := by
            rw [List.take_of_length_le (by rw [length_digs, hn]; exact Nat.le_refl _)]
            unfold encI; rw [hn]
          rw [e]; exact hown
    refine wp_block ?_
    refine loopN (fun n a w => n ≤ 8 ∧ nb (mag n₀) ≤ n ∧ Kn a 47 [(2, .slice none 0 0), (3, .int .u64 (mag n₀ : Int)), (4, B (flip n₀)), (5, I n)] ∧ Ext w0 w) (8) ?_ fun k a w hI => ?_
    · exact ⟨by omega, nb_le _, hk.sub _ ⟨rfl, rfl, rfl, rfl, trivial⟩, hE⟩
    clear hE
    obtain ⟨hk8, hkn, hk, hE⟩ := hI
    refine wp_seq_k fun K14 hK14 => ?_
    refine wp_seq_k fun K15 hK15 => ?_
    refine wp_region_lit ?_
    refine ls hk rfl rfl rfl (e_move hk rfl _) fun a hk => ?_
    refine ls hk rfl rfl rfl (e_gtr hk rfl rfl rfl _) fun a hk => ?_
    refine lnil (hK15 _ _ ?_)
    refine cdB hk rfl (fun hb => ?_) (fun hb => ?_)
    · have hk0 : 0 < k := by have := of_decide_eq_true hb; omega
      refine wp_skip (hK14 _ _ ?_)
      refine wp_block ?_
      refine wp_seq_k fun K16 hK16 => ?_
      refine wp_seq_k fun K17 hK17 => ?_
      refine wp_region_lit ?_
      refine ls hk rfl rfl rfl (e_move hk rfl _) fun a hk => ?_
      refine ls hk rfl rfl rfl (e_move hk rfl _) fun a hk => ?_
      refine ls hk rfl rfl rfl (e_sub (q := ((k - 1 : Nat) : Int)) hk rfl rfl (by rw [i64 (by omega) (by omega)]; omega) _) fun a hk => ?_
      refine ls hk rfl rfl rfl (e_mul (q := ((8 * (k - 1) : Nat) : Int)) hk rfl rfl (by rw [i64 (by omega) (by omega)]; omega) _) fun a hk => ?_
      refine ls hk rfl rfl rfl (e_shr hk rfl rfl (by omega) (u_shr8 _ (k - 1) (by omega)) _) fun a hk => ?_
      refine ls hk rfl rfl rfl (e_gtr hk rfl rfl rfl _) fun a hk => ?_
      refine lnil (hK17 _ _ ?_)
      refine cdB hk rfl (fun hb => ?_) (fun hb => ?_)
      · have hge : 256 ^ (k - 1) ≤ mag n₀ := by
          have h := of_decide_eq_true hb
          have h1 : 0 < mag n₀ / 256 ^ (k - 1) := by generalize mag n₀ / 256 ^ (k - 1) = q at h; omega
          exact (Nat.div_pos_iff.1 h1).2
        have he : nb (mag n₀) = k := by have := nb_ge_of (mag n₀) (k - 1) hm hge; omega
        have hk := hk.sub [(2, .slice none 0 0), (3, .int .u64 (mag n₀ : Int)), (4, B (flip n₀)), (5, I (nb (mag n₀)))] ⟨rfl, rfl, rfl, by rw [he]; rfl, trivial⟩
        refine wp_exit (hJ6 _ _ ⟨hk, hE⟩)
      · have hkn1 : nb (mag n₀) ≤ k - 1 := by
          have h := of_decide_eq_false hb
          have h1 : mag n₀ / 256 ^ (k - 1) = 0 := by generalize mag n₀ / 256 ^ (k - 1) = q at h; omega
          exact nb_le_of _ _ ((Nat.div_eq_zero_iff_lt (Nat.pow_pos (by decide))).1 h1)
        refine wp_skip (hK16 _ _ ?_)
        refine wp_region_lit ?_
        refine ls hk rfl rfl rfl (e_move hk rfl _) fun a hk => ?_
        refine ls hk rfl rfl rfl (e_sub (q := ((k - 1 : Nat) : Int)) hk rfl rfl (by rw [i64 (by omega) (by omega)]; omega) _) fun a hk => ?_
        refine ls hk rfl rfl rfl (e_assign hk rfl _) fun a hk => ?_
        refine lnil (show ∃ m : Nat, m < _ ∧ _ from ⟨k - 1, by omega, by omega, hkn1, hk.sub _ ⟨rfl, rfl, rfl, rfl, trivial⟩, hE⟩)
    · have hk0 : k = 0 := by have := of_decide_eq_false hb; omega
      subst hk0
      have he : nb (mag n₀) = 0 := by omega
      have hk := hk.sub [(2, .slice none 0 0), (3, .int .u64 (mag n₀ : Int)), (4, B (flip n₀)), (5, I (nb (mag n₀)))] ⟨rfl, rfl, rfl, by rw [he]; rfl, trivial⟩
      refine wp_exit (hJ6 _ _ ⟨hk, hE⟩)
  refine wp_seq_k fun K18 hK18 => ?_
  refine wp_region_lit ?_
  refine ls hk rfl rfl rfl (e_move hk rfl _) fun a hk => ?_
  refine ls hk rfl rfl rfl (e_lss hk rfl rfl rfl _) fun a hk => ?_
  refine lnil (hK18 _ _ ?_)
  refine cdB hk rfl (fun hb => ?_) (fun hb => ?_)
  · have hneg : n₀ < 0 := by have := of_decide_eq_true hb; omega
    refine wp_region_lit ?_
    refine ls hk rfl rfl rfl (e_move hk rfl _) fun a hk => ?_
    refine ls hk rfl rfl rfl (e_cpl (q := ((mag n₀ : Nat) : Int)) hk rfl rfl (by rw [show IntKind.u64.wrap n₀ = (((n₀ + 18446744073709551616).toNat : Nat) : Int) by rw [wrap64u]; omega, u_cpl _ (by omega)]; unfold mag; rw [if_pos hneg]; omega) _) fun a hk => ?_
    refine ls hk rfl rfl rfl (e_assign hk rfl _) fun a hk => ?_
    refine ls hk rfl rfl rfl (e_assign hk rfl _) fun a hk => ?_
    have hk := hk.sub [(2, .slice none 0 0), (3, .int .u64 (mag n₀ : Int)), (4, B (flip n₀))] ⟨rfl, rfl, by unfold flip; rw [if_pos hneg]; rfl, trivial⟩
    refine lnil (hJ3 _ _ ⟨hk, hE⟩)
  · have hneg : ¬ n₀ < 0 := by have := of_decide_eq_false hb; omega
    have hk := hk.sub [(2, .slice none 0 0), (3, .int .u64 (mag n₀ : Int)), (4, B (flip n₀))] ⟨rfl, by show some (Value.int .u64 (IntKind.u64.wrap n₀)) = _; rw [show IntKind.u64.wrap n₀ = (mag n₀ : Int) by rw [wrap64u]; unfold mag; rw [if_neg hneg]; omega], by unfold flip; rw [if_neg hneg]; rfl, trivial⟩
    refine wp_skip (hJ3 _ _ ⟨hk, hE⟩)

theorem c73 (s : List UInt8) (w0 : World) (h : s.length ≤ 70368744177664) :
    Calls Tryd.prog 73 #[Str s] w0 fun e w' => ∃ ad c, e = .returned (.slice ad (encB s).length c) ∧ w'.ownsRow w0.heap.size 5 1 (.slice ad (encB s).length c) (encB s).length ((encB s).map B) ∧ Ext w0 w' := by
  refine start 8 Tryd.func73 rfl rfl rfl fun a hk => ?_
  refine wp_seq_k fun K1 hK1 => ?_
  refine wp_region_lit ?_
  refine ls hk rfl rfl rfl (e_assign hk rfl _) fun a hk => ?_
  refine lnil (hK1 _ _ ?_)
  refine wp_seq_k fun K2 hK2 => ?_
  refine wp_region_lit ?_
  refine ls hk rfl rfl rfl (e_move hk rfl _) fun a hk => ?_
  refine ls hk rfl rfl rfl (e_lenStr hk rfl Tryd.underlying9 _) fun a hk => ?_
  refine la hk rfl (a_call hk rfl rfl (c_fn hk rfl ok78) (c78 (s.length : Int) _ (by omega) (by omega)) ?_)
  rintro e w ⟨ad, c, rfl, hown, hE⟩
  refine ⟨_, rfl, fun a hk => ?_⟩
  refine ls hk rfl rfl rfl (e_move hk rfl _) fun a hk => ?_
  refine la hk rfl (a_appStr hk rfl rfl hown rfl Tryd.underlying22 Tryd.underlying9 el5 (by have := length_encI_le (s.length : Int); omega) hE.size fun a w v hk hown' hKp => ?_)
  have hB := kept_below hKp hE hown (Nat.le_refl _) hE.size
  obtain ⟨ad, c, rfl, _, _⟩ := Rd.of_own hown'
  refine ls hk rfl rfl rfl (e_assign hk rfl _) fun a hk => ?_
  refine lnil (hK2 _ _ ?_)
  refine wp_ret ?_
  refine ret1 hk rfl rfl ⟨ad, c, ?_, ?_, hB⟩
  · rw [encB, List.length_append]
  · rw [encB, List.length_append, List.map_append]; exact hown'

end Go.Proofs.YtidfbboalbchiaaDoor
