/- The walk of the specification's padded: a message with its padding. -/
import Derived.Test.YtidfbboalbchiaaDoorA13
namespace Go.Proofs.YtidfbboalbchiaaDoor
open Go Go.RowKit

theorem a_lit0 {P : Program} {ty : TypeId} {pos : String} {af : Array Edge} {g : Option (Nat × Bool)} {N d : Nat} {L : Fm} {a : Act} {w : World} {t e : TypeId} {zv : Value} {sz by_ : Nat} {K : Act → World → Prop} (hk : Kn a N L) (hN : Nat.blt d N = true) (ht : P.underlying t = some (.slice e)) (hz : El P e zv sz by_)
    (hK : ∀ a' w' b, Kn a' N ((d, .slice (some ⟨b, 0, none⟩) 0 0) :: L) → Grew w w' b (.cells #[] e) → K a' w') : acts P ⟨some d, .buildSlice t 0 #[], ty, pos, af, g⟩ K a w := by
  refine act_v (v := .slice (some ⟨w.heap.size, 0, none⟩) 0 0) (w' := w.alloc (.cells #[] e)) hk rfl hN ?_ fun a' hk' => hK a' _ _ hk' (grew_alloc _ _)
  unfold El at hz
  cases hq : P.info? e with
  | none => simp [hq] at hz
  | some inf =>
    have hr : Array.range 0 = #[] := by decide
    simp [execOp, Instr.buildSlice, run_underlying ht, sizeOf, typeInfo, hq, newRow, Instr.fill, hr]
/-- A message, its first padding byte, k zero bytes. -/
def pad1 (m : List UInt8) (k : Nat) : List UInt8 := m ++ [128] ++ List.replicate k 0
theorem pad1_succ (m : List UInt8) (k : Nat) : pad1 m (k + 1) = pad1 m k ++ [0] := by
  unfold pad1
  rw [List.replicate_succ']; simp
theorem length_pad1 (m : List UInt8) (k : Nat) : (pad1 m k).length = m.length + 1 + k := by simp [pad1]; omega
theorem pad_all (m : List UInt8) : pad1 m (zeros m.length) ++ len8 (8 * m.length) = m ++ padding m.length := by simp [pad1, padding]

set_option maxRecDepth 4000 in
set_option maxHeartbeats 1000000 in
theorem c67 (m : List UInt8) (ad0 : Option Addr) (c0 : Nat) (w0 : World) (hR : Rd w0 ad0 m.length c0 1 (m.map B)) (hl : m.length ≤ 1000000000) :
    Calls Tryd.prog 67 #[.slice ad0 m.length c0] w0 fun e w' => ∃ ad c, e = .returned (.slice ad (m ++ padding m.length).length c) ∧ w'.ownsRow w0.heap.size 5 1 (.slice ad (m ++ padding m.length).length c) (m ++ padding m.length).length ((m ++ padding m.length).map B) ∧ Ext w0 w' := by
  refine start 37 Tryd.func67 rfl rfl rfl fun a hk => ?_
  refine wp_seq_k fun K1 hK1 => ?_
  refine wp_region_lit ?_
  refine ls hk rfl rfl rfl (e_assign hk rfl _) fun a hk => ?_
  refine lnil (hK1 _ _ ?_)
  refine wp_seq_k fun K2 hK2 => ?_
  have hB : Ext w0 w0 := Below.refl _ _
  have hCC : w0.heap.size ≤ w0.heap.size := Nat.le_refl _
  refine wp_region_lit ?_
  refine la hk rfl (a_lit0 hk rfl Tryd.underlying22 el5 fun a w bl hk GL => ?_)
  have hB := ext_trans hB GL.ext
  have hown : w.ownsRow w0.heap.size 5 1 (.slice (some ⟨bl, 0, none⟩) 0 0) 0 [] := lit_own (n := 0) (sz := 1) GL rfl (by decide)
  have hCC := hB.size
  clear GL
  refine ls hk rfl rfl rfl (e_move hk rfl _) fun a hk => ?_
  refine la hk rfl (a_app (news := m.map B) hk rfl rfl hown rfl (hR.ext hB) (bytes_one m) Tryd.underlying22 el5 rfl (by decide) (by omega) (by omega) hCC fun a w v hk hown' hKp => ?_)
  have hB := kept_below hKp hB hown (Nat.le_refl _) hCC
  have hCC := Nat.le_trans hCC hKp.size
  clear hown hKp
  obtain ⟨ad, c, rfl, _, _⟩ := Rd.of_own hown'
  have hown : w.ownsRow w0.heap.size 5 1 (.slice ad (0 + m.length) c) (0 + m.length) (m.map B) := hown'
  clear hown'
  refine ls hk rfl rfl rfl (e_assign hk rfl _) fun a hk => ?_
  refine lnil (hK2 _ _ ?_)
  refine wp_seq_k fun K3 hK3 => ?_
  refine wp_region_lit ?_
  refine ls hk rfl rfl rfl (e_move hk rfl _) fun a hk => ?_
  refine la hk rfl (a_lit (cells := #[B (128)]) (zv := .int .u8 0) (sz := 1) (by_ := 1) hk rfl rfl Tryd.underlying22 el5 (by decide) (by decide) (lit1 _ _ rfl) rfl fun a w bl hk GL => ?_)
  have hB := ext_trans hB GL.ext
  have hown := own_ext hown GL.ext
  have hRd := lit_byte _ GL
  have hCC := Nat.le_trans hCC GL.ext.size
  clear GL
  refine la hk rfl (a_app hk rfl rfl hown rfl hRd (bytes_one _) Tryd.underlying22 el5 rfl (by decide) (by omega) (by omega) hCC fun a w v hk hown' hKp => ?_)
  have hB := kept_below hKp hB hown (Nat.le_refl _) hCC
  have hCC := Nat.le_trans hCC hKp.size
  clear hown hRd hKp
  obtain ⟨ad, c, rfl, _, _⟩ := Rd.of_own hown'
  have hown : w.ownsRow w0.heap.size 5 1 (.slice ad (0 + m.length + 1) c) (0 + m.length + 1) ((pad1 m 0).map B) := by
    rw [show pad1 m 0 = m ++ [128] by simp [pad1], List.map_append]; exact hown'
  clear hown'
  refine ls hk rfl rfl rfl (e_assign hk rfl _) fun a hk => ?_
  rw [show 0 + m.length + 1 = m.length + 1 + 0 by omega] at hk hown
  refine lnil (hK3 _ _ ?_)
  refine wp_seq_k fun K4 hK4 => ?_
  refine wp_block ?_
  refine loopN (fun n a w => ∃ k : Nat, n = zeros m.length - k ∧ k ≤ zeros m.length ∧ ∃ (ad : Option Addr) (c : Nat), Kn a 37 [(0, .slice ad0 m.length c0), (3, .slice ad (m.length + 1 + k) c)] ∧ Below w0.heap.size w0 w ∧ w0.heap.size ≤ w.heap.size ∧ w.ownsRow w0.heap.size 5 1 (.slice ad (m.length + 1 + k) c) (m.length + 1 + k) ((pad1 m k).map B)) (zeros m.length) ?_ fun n a w hI => ?_
  · exact ⟨0, rfl, Nat.zero_le _, _, _, hk.sub _ ⟨rfl, rfl, trivial⟩, hB, hCC, hown⟩
  clear hB hCC hown
  obtain ⟨k, rfl, hkz, ad, c, hk, hB, hCC, hown⟩ := hI
  have hz64 : zeros m.length < 64 := Nat.mod_lt _ (by decide)
  refine wp_seq_k fun K5 hK5 => ?_
  refine wp_seq_k fun K6 hK6 => ?_
  refine wp_region_lit ?_
  refine ls hk rfl rfl rfl (e_move hk rfl _) fun a hk => ?_
  refine ls hk rfl rfl rfl (e_lenS hk rfl Tryd.underlying22 _) fun a hk => ?_
  refine ls hk rfl rfl rfl (e_rem (q := (((m.length + 1 + k) % 64 : Nat) : Int)) hk rfl rfl (by decide) (i_rem (m.length + 1 + k) 64) _) fun a hk => ?_
  refine ls hk rfl rfl rfl (e_neq hk rfl rfl rfl _) fun a hk => ?_
  refine lnil (hK6 _ _ ?_)
  refine cdB hk rfl (fun hb => ?_) (fun hb => ?_)
  · have hne : (m.length + 1 + k) % 64 ≠ 56 := by
      intro h
      rw [h] at hb
      simp at hb
    have hlt : k < zeros m.length := by unfold zeros at hkz ⊢; omega
    refine wp_skip (hK5 _ _ ?_)
    refine wp_block ?_
    refine wp_region_lit ?_
    refine ls hk rfl rfl rfl (e_move hk rfl _) fun a hk => ?_
    refine la hk rfl (a_lit (cells := #[B (0)]) (zv := .int .u8 0) (sz := 1) (by_ := 1) hk rfl rfl Tryd.underlying22 el5 (by decide) (by decide) (lit1 _ _ rfl) rfl fun a w bl hk GL => ?_)
    have hB := ext_trans hB GL.ext
    have hown := own_ext hown GL.ext
    have hRd := lit_byte _ GL
    have hCC := Nat.le_trans hCC GL.ext.size
    clear GL
    refine la hk rfl (a_app hk rfl rfl hown rfl hRd (bytes_one _) Tryd.underlying22 el5 rfl (by decide) (by omega) (by omega) hCC fun a w v hk hown' hKp => ?_)
    have hB := kept_below hKp hB hown (Nat.le_refl _) hCC
    have hCC := Nat.le_trans hCC hKp.size
    clear hown hRd hKp
    obtain ⟨ad, c, rfl, _, _⟩ := Rd.of_own hown'
    have hown : w.ownsRow w0.heap.size 5 1 (.slice ad (m.length + 1 + (k + 1)) c) (m.length + 1 + (k + 1)) ((pad1 m (k + 1)).map B) := by
      rw [pad1_succ, List.map_append]; exact hown'
    clear hown'
    refine ls hk rfl rfl rfl (e_assign hk rfl _) fun a hk => ?_
    refine lnil (show ∃ m : Nat, m < _ ∧ _ from ⟨zeros m.length - (k + 1), by omega, k + 1, rfl, by omega, _, _, hk.sub _ ⟨rfl, rfl, trivial⟩, hB, hCC, hown⟩)
  · have he : (m.length + 1 + k) % 64 = 56 := by
      have h : (((m.length + 1 + k) % 64 : Nat) : Int) = 56 := by simpa using hb
      omega
    have hz : k = zeros m.length := by unfold zeros at hkz ⊢; omega
    subst hz
    refine wp_exit (hK4 _ _ ?_)
    refine wp_seq_k fun K7 hK7 => ?_
    refine wp_region_lit ?_
    refine ls hk rfl rfl rfl (e_move hk rfl _) fun a hk => ?_
    refine ls hk rfl rfl rfl (e_lenS hk rfl Tryd.underlying22 _) fun a hk => ?_
    refine ls hk rfl rfl rfl (e_conv hk rfl Tryd.underlying3 Tryd.underlying32 (u64 (by omega) (by omega)) _) fun a hk => ?_
    refine ls hk rfl rfl rfl (e_mul (q := ((8 * m.length : Nat) : Int)) hk rfl rfl (by rw [u64 (by omega) (by omega)]; omega) _) fun a hk => ?_
    refine ls hk rfl rfl rfl (e_assign hk rfl _) fun a hk => ?_
    refine lnil (hK7 _ _ ?_)
    refine wp_seq_k fun K8 hK8 => ?_
    refine wp_seq_k fun K9 hK9 => ?_
    refine wp_region_lit ?_
    refine ls hk rfl rfl rfl (e_assign hk rfl _) fun a hk => ?_
    refine lnil (hK9 _ _ ?_)
    refine wp_block ?_
    refine loopN (fun n a w => ∃ i : Nat, n = 8 - i ∧ i ≤ 8 ∧ ∃ (ad : Option Addr) (c : Nat), Kn a 37 [(0, .slice ad0 m.length c0), (3, .slice ad (m.length + 1 + zeros m.length + i) c), (4, .int .u64 ((8 * m.length : Nat) : Int)), (5, I i)] ∧ Below w0.heap.size w0 w ∧ w0.heap.size ≤ w.heap.size ∧ w.ownsRow w0.heap.size 5 1 (.slice ad (m.length + 1 + zeros m.length + i) c) (m.length + 1 + zeros m.length + i) ((pad1 m (zeros m.length) ++ (len8 (8 * m.length)).take i).map B)) (8) ?_ fun n a w hI => ?_
    · exact ⟨0, rfl, by omega, ad, c, hk.sub _ ⟨rfl, rfl, rfl, rfl, trivial⟩, hB, hCC, by rw [List.take_zero, List.append_nil]; exact hown⟩
    clear hB hCC hown
    obtain ⟨i, rfl, hi, ad, c, hk, hB, hCC, hown⟩ := hI
    refine wp_seq_k fun K10 hK10 => ?_
    refine wp_seq_k fun K11 hK11 => ?_
    refine wp_region_lit ?_
    refine ls hk rfl rfl rfl (e_move hk rfl _) fun a hk => ?_
    refine ls hk rfl rfl rfl (e_lss hk rfl rfl rfl _) fun a hk => ?_
    refine lnil (hK11 _ _ ?_)
    refine cdB hk rfl (fun hb => ?_) (fun hb => ?_)
    · have hi8 : i < 8 := by have := of_decide_eq_true hb; omega
      refine wp_skip (hK10 _ _ ?_)
      refine wp_seq_k fun K12 hK12 => ?_
      refine wp_block ?_
      refine wp_region_lit ?_
      refine ls hk rfl rfl rfl (e_move hk rfl _) fun a hk => ?_
      refine ls hk rfl rfl rfl (e_move hk rfl _) fun a hk => ?_
      refine ls hk rfl rfl rfl (e_move hk rfl _) fun a hk => ?_
      refine ls hk rfl rfl rfl (e_mul (q := ((8 * i : Nat) : Int)) hk rfl rfl (by rw [i64 (by omega) (by omega)]; omega) _) fun a hk => ?_
      refine ls hk rfl rfl rfl (e_sub (q := ((56 - 8 * i : Nat) : Int)) hk rfl rfl (by rw [i64 (by omega) (by omega)]; omega) _) fun a hk => ?_
      refine ls hk rfl rfl rfl (e_shr hk rfl rfl (by omega) (u_shr _ (56 - 8 * i) (by omega)) _) fun a hk => ?_
      refine ls hk rfl rfl rfl (e_conv hk rfl Tryd.underlying32 Tryd.underlying5 (u_b _) _) fun a hk => ?_
      refine la hk rfl (a_lit (cells := #[B (UInt8.ofNat (8 * m.length / 2 ^ (56 - 8 * i) % 256))]) (zv := .int .u8 0) (sz := 1) (by_ := 1) hk rfl rfl Tryd.underlying22 el5 (by decide) (by decide) (lit1 _ _ rfl) rfl fun a w bl hk GL => ?_)
      have hB := ext_trans hB GL.ext
      have hown := own_ext hown GL.ext
      have hRd := lit_byte _ GL
      have hCC := Nat.le_trans hCC GL.ext.size
      clear GL
      refine la hk rfl (a_app hk rfl rfl hown rfl hRd (bytes_one _) Tryd.underlying22 el5 rfl (by decide) (by omega) (by omega) hCC fun a w v hk hown' hKp => ?_)
      have hB := kept_below hKp hB hown (Nat.le_refl _) hCC
      have hCC := Nat.le_trans hCC hKp.size
      clear hown hRd hKp
      obtain ⟨ad, c, rfl, _, _⟩ := Rd.of_own hown'
      have hown : w.ownsRow w0.heap.size 5 1 (.slice ad (m.length + 1 + zeros m.length + (i + 1)) c) (m.length + 1 + zeros m.length + (i + 1)) ((pad1 m (zeros m.length) ++ (len8 (8 * m.length)).take (i + 1)).map B) := by
        rw [len8_take _ _ hi8, ← List.append_assoc, List.map_append]; exact hown'
      clear hown'
      refine ls hk rfl rfl rfl (e_assign hk rfl _) fun a hk => ?_
      refine lnil (hK12 _ _ ?_)
      refine wp_region_lit ?_
      refine ls hk rfl rfl rfl (e_move hk rfl _) fun a hk => ?_
      refine ls hk rfl rfl rfl (e_add hk rfl rfl (i64 (by omega) (by omega)) _) fun a hk => ?_
      refine ls hk rfl rfl rfl (e_assign hk rfl _) fun a hk => ?_
      refine lnil (show ∃ m : Nat, m < _ ∧ _ from ⟨8 - (i + 1), by omega, i + 1, rfl, by omega, _, _, hk.sub _ ⟨rfl, rfl, rfl, rfl, trivial⟩, hB, hCC, hown⟩)
    · have hi8 : i = 8 := by have := of_decide_eq_false hb; omega
      subst hi8
      refine wp_exit (hK8 _ _ ?_)
      refine wp_seq_k fun K13 hK13 => ?_
      refine wp_region_lit ?_
      refine ls hk rfl rfl rfl (e_move hk rfl _) fun a hk => ?_
      refine ls hk rfl rfl rfl (e_assign hk rfl _) fun a hk => ?_
      refine lnil (hK13 _ _ ?_)
      refine wp_ret ?_
      have hp : pad1 m (zeros m.length) ++ (len8 (8 * m.length)).take 8 = m ++ padding m.length := by rw [List.take_of_length_le (by simp [len8]), pad_all]
      have hlp : (m ++ padding m.length).length = m.length + 1 + zeros m.length + 8 := by rw [List.length_append, length_padding]; omega
      rw [hp] at hown
      rw [← hlp] at hk hown
      exact ret1 hk rfl rfl ⟨ad, c, rfl, hown, hB⟩

end Go.Proofs.YtidfbboalbchiaaDoor
