/- Part 7 of the texts that a claim's last texts stand on: A50, A51, A52, A53. Conditions: those that each theorem names. -/
import Derived.Test.YtidfbboalbchiaaDoorT6
namespace Go.Proofs.YtidfbboalbchiaaDoor
open Go Go.RowKit

theorem Frm.newwrote {S : Nat → Prop} {w0 w w' : World} {b : Nat} {o : Obj} (h : Frm S w0 w) (W : Wrote w w' b o) (hb : w0.heap.size ≤ b) : Frm S w0 w' :=
  ⟨W.os.trans h.os, W.tape.trans h.tape, W.output.trans h.output, Nat.le_trans h.size (Nat.le_of_eq W.size.symm), fun k hk hn => (W.other k (by omega)).trans (h.keep k hk hn)⟩
theorem gh_lt {w : World} (h : GH w) : 1 < w.heap.size := World.block_lt_of_cell? w _ (h 0 (W (kc.getD 0 0)) rfl)
theorem GH.frm {S : Nat → Prop} {w w' : World} (h : GH w) (hF : Frm S w w') (hm : ¬ S 1) : GH w' := fun j u hu => by
  have hc := h j u hu
  have hlt := gh_lt h
  unfold World.cell? at hc ⊢
  rw [hF.keep 1 hlt hm]; exact hc
/-- The function that computes nodes. -/
abbrev atV (b1 b3 b4 : Nat) : Value := .func (.func 122) #[] #[.pointer (some ⟨b3, 0, none⟩), .pointer (some ⟨b1, 0, none⟩), .pointer (some ⟨b4, 0, none⟩)]

set_option maxRecDepth 4000 in
set_option maxHeartbeats 1000000 in
theorem c122 (seed : List UInt8) (hs : seed.length ≤ 1000000) (b1 b3 b4 bm : Nat) (hm1 : 1 ≠ bm) : ∀ (l k : Nat) (w0 : World), l ≤ 1000 ∧ (k + 1) * 2 ^ l ≤ 1000000 → w0.heap[b1]? = some (.cells #[Str seed] 9 (0, 0)) → w0.heap[b3]? = some (.cells #[.map (some bm)] 157 (0, 0)) → w0.heap[b4]? = some (.cells #[atV b1 b3 b4] 109 (0, 0)) → MapOk seed bm w0 → GH w0 →
    Calls Tryd.prog 122 #[I (l : Nat), I (k : Nat), .pointer (some ⟨b3, 0, none⟩), .pointer (some ⟨b1, 0, none⟩), .pointer (some ⟨b4, 0, none⟩)] w0 fun e w' => e = .returned (D (nodeAt seed l k)) ∧ MapOk seed bm w' ∧ Frm (fun x => x = bm) w0 w' := by
  intro l
  induction l with
  | zero =>
    intro k w0 hbd h_b1 h_b3 h_b4 hM hG
    have hkl : k ≤ 1000000 := by have : k + 1 ≤ (k + 1) * 2 ^ 0 := Nat.le_mul_of_pos_right _ (Nat.pow_pos (by decide)); omega
    obtain ⟨hl10, hbd⟩ := hbd
    have hF := Frm.refl (fun x => x = bm) w0
    refine start 45 Tryd.func122 rfl rfl rfl fun a hk => ?_
    refine wp_seq_k fun K1 hK1 => ?_
    refine wp_region_lit ?_
    refine la hk rfl (a_box hk rfl rfl fun a w b6 hk G => ?_)
    have n_b1_b6 : b1 ≠ b6 := G.ne h_b1
    have n_b3_b6 : b3 ≠ b6 := G.ne h_b3
    have n_b4_b6 : b4 ≠ b6 := G.ne h_b4
    have hg_b6 : w0.heap.size ≤ b6 := Nat.le_trans hF.size G.ge
    have n_bm_b6 : bm ≠ b6 := Nat.ne_of_lt (Nat.lt_of_lt_of_le hM.lt G.ge)
    have h_b1 := ext_at G.ext h_b1
    have h_b3 := ext_at G.ext h_b3
    have h_b4 := ext_at G.ext h_b4
    have hM := hM.ext G.ext
    have hF := hF.trans (Frm.of_ext G.ext)
    have h_b6 := G.at_
    clear G
    refine la hk rfl (a_alloc hk rfl zr44 fun a w b7 hk G => ?_)
    have n_b1_b7 : b1 ≠ b7 := G.ne h_b1
    have n_b3_b7 : b3 ≠ b7 := G.ne h_b3
    have n_b4_b7 : b4 ≠ b7 := G.ne h_b4
    have n_b6_b7 : b6 ≠ b7 := G.ne h_b6
    have hg_b7 : w0.heap.size ≤ b7 := Nat.le_trans hF.size G.ge
    have n_bm_b7 : bm ≠ b7 := Nat.ne_of_lt (Nat.lt_of_lt_of_le hM.lt G.ge)
    have h_b1 := ext_at G.ext h_b1
    have h_b3 := ext_at G.ext h_b3
    have h_b4 := ext_at G.ext h_b4
    have h_b6 := ext_at G.ext h_b6
    have hM := hM.ext G.ext
    have hF := hF.trans (Frm.of_ext G.ext)
    have h_b7 := G.at_
    clear G
    refine lnil (hK1 _ _ ?_)
    refine wp_seq_k fun K2 hK2 => ?_
    refine wp_seq_k fun K3 hK3 => ?_
    obtain ⟨d, ok, hlk, hd16, hdo⟩ := map_look hM (0) k
    refine wp_region_lit ?_
    refine ls hk rfl rfl rfl (r_ld1 hk rfl Tryd.underlying157 rfl h_b3) fun a hk => ?_
    refine ls hk rfl rfl rfl (e_move hk rfl _) fun a hk => ?_
    refine ls hk rfl rfl rfl (r_ld1 hk rfl Tryd.underlying3 rfl h_b6) fun a hk => ?_
    refine ls hk rfl rfl rfl (e_buildA (cells := #[I (0 : Nat), I (k : Nat)]) hk rfl zr66 Tryd.underlying66 sz3 rfl _) fun a hk => ?_
    refine ls hk rfl rfl rfl (r_look hk rfl rfl hlk) fun a hk => ?_
    refine ls hk rfl rfl rfl (e_move hk rfl _) fun a hk => ?_
    refine ls hk rfl rfl rfl (e_ext hk rfl rfl _) fun a hk => ?_
    refine ls hk rfl rfl rfl (e_ext hk rfl rfl _) fun a hk => ?_
    refine la hk rfl (a_alloc hk rfl zr44 fun a w b8 hk G => ?_)
    have n_b1_b8 : b1 ≠ b8 := G.ne h_b1
    have n_b3_b8 : b3 ≠ b8 := G.ne h_b3
    have n_b4_b8 : b4 ≠ b8 := G.ne h_b4
    have n_b6_b8 : b6 ≠ b8 := G.ne h_b6
    have n_b7_b8 : b7 ≠ b8 := G.ne h_b7
    have hg_b8 : w0.heap.size ≤ b8 := Nat.le_trans hF.size G.ge
    have n_bm_b8 : bm ≠ b8 := Nat.ne_of_lt (Nat.lt_of_lt_of_le hM.lt G.ge)
    have h_b1 := ext_at G.ext h_b1
    have h_b3 := ext_at G.ext h_b3
    have h_b4 := ext_at G.ext h_b4
    have h_b6 := ext_at G.ext h_b6
    have h_b7 := ext_at G.ext h_b7
    have hM := hM.ext G.ext
    have hF := hF.trans (Frm.of_ext G.ext)
    have h_b8 := G.at_
    clear G
    refine la hk rfl (a_st44 (l := d) hk rfl rfl hd16 h_b8 rfl fun a w hk W => ?_)
    have h_b1 := W.keep n_b1_b8 h_b1
    have h_b3 := W.keep n_b3_b8 h_b3
    have h_b4 := W.keep n_b4_b8 h_b4
    have h_b6 := W.keep n_b6_b8 h_b6
    have h_b7 := W.keep n_b7_b8 h_b7
    have hM := hM.wrote W n_bm_b8
    have hF := hF.newwrote W hg_b8
    have h_b8 := W.at_
    clear W
    refine ls hk rfl rfl rfl (e_assign hk rfl _) fun a hk => ?_
    refine lnil (hK3 _ _ ?_)
    refine wp_seq_k fun K4 hK4 => ?_
    refine wp_region_lit ?_
    refine ls hk rfl rfl rfl (e_move hk rfl _) fun a hk => ?_
    refine lnil (hK4 _ _ ?_)
    refine cdB hk rfl (fun hb => ?_) (fun hb => ?_)
    · have hde := hdo hb
      refine wp_seq_k fun K5 hK5 => ?_
      refine wp_region_lit ?_
      refine ls hk rfl rfl rfl (r_ld44 hk rfl h_b8 hd16) fun a hk => ?_
      refine la hk rfl (a_st44 (l := d) hk rfl rfl hd16 h_b7 rfl fun a w hk W => ?_)
      have h_b1 := W.keep n_b1_b7 h_b1
      have h_b3 := W.keep n_b3_b7 h_b3
      have h_b4 := W.keep n_b4_b7 h_b4
      have h_b6 := W.keep n_b6_b7 h_b6
      have h_b8 := W.keep (Ne.symm n_b7_b8) h_b8
      have hM := hM.wrote W n_bm_b7
      have hF := hF.newwrote W hg_b7
      have h_b7 := W.at_
      clear W
      refine lnil (hK5 _ _ ?_)
      refine wp_ret ?_
      simp only [then_ret]
      exact ret44 (l := d) hk rfl rfl h_b7 hd16 ⟨by rw [hde], hM, hF⟩
    · refine wp_skip (hK2 _ _ ?_)
      refine wp_seq_k fun K6 hK6 => ?_
      refine wp_region_lit ?_
      refine la hk rfl (a_alloc hk rfl zr44 fun a w b10 hk G => ?_)
      have n_b1_b10 : b1 ≠ b10 := G.ne h_b1
      have n_b3_b10 : b3 ≠ b10 := G.ne h_b3
      have n_b4_b10 : b4 ≠ b10 := G.ne h_b4
      have n_b6_b10 : b6 ≠ b10 := G.ne h_b6
      have n_b7_b10 : b7 ≠ b10 := G.ne h_b7
      have n_b8_b10 : b8 ≠ b10 := G.ne h_b8
      have hg_b10 : w0.heap.size ≤ b10 := Nat.le_trans hF.size G.ge
      have n_bm_b10 : bm ≠ b10 := Nat.ne_of_lt (Nat.lt_of_lt_of_le hM.lt G.ge)
      have h_b1 := ext_at G.ext h_b1
      have h_b3 := ext_at G.ext h_b3
      have h_b4 := ext_at G.ext h_b4
      have h_b6 := ext_at G.ext h_b6
      have h_b7 := ext_at G.ext h_b7
      have h_b8 := ext_at G.ext h_b8
      have hM := hM.ext G.ext
      have hF := hF.trans (Frm.of_ext G.ext)
      have h_b10 := G.at_
      clear G
      refine lnil (hK6 _ _ ?_)
      refine wp_seq_k fun K7 hK7 => ?_
      refine wp_seq_k fun K8 hK8 => ?_
      refine wp_region_lit ?_
      refine ls hk rfl rfl rfl (e_move hk rfl _) fun a hk => ?_
      refine ls hk rfl rfl rfl (e_eql (b := true) hk rfl rfl rfl _) fun a hk => ?_
      refine lnil (hK8 _ _ ?_)
      refine cdT hk rfl ?_
      refine wp_region_lit ?_
      refine ls hk rfl rfl rfl (e_func hk rfl rfl _) fun a hk => ?_
      refine la hk rfl (a_call hk rfl rfl (c_fn hk rfl ok84) (c84 123 ok123 [.pointer (some ⟨b6, 0, none⟩), .pointer (some ⟨b1, 0, none⟩)] (fun c => adv k c 0 3 (startS seed k c)) (fun c => length_adv _ _ _ _ _ (length_startS _ _ _)) _ (hG.frm hF hm1) (fun c hc w2 hE2 => c123 seed hs k c hkl (by omega) b6 b1 w2 (ext_at hE2 h_b6) (ext_at hE2 h_b1) ((hG.frm hF hm1).ext hE2))) ?_)
      rintro e w ⟨rfl, hE⟩
      refine ⟨_, rfl, fun a hk => ?_⟩
      have h_b1 := ext_at hE h_b1
      have h_b3 := ext_at hE h_b3
      have h_b4 := ext_at hE h_b4
      have h_b6 := ext_at hE h_b6
      have h_b7 := ext_at hE h_b7
      have h_b8 := ext_at hE h_b8
      have h_b10 := ext_at hE h_b10
      have hM := hM.ext hE
      have hF := hF.trans (Frm.of_ext hE)
      clear hE
      refine la hk rfl (a_st44 (l := nodeAt seed 0 k) hk rfl rfl (by simp) h_b10 rfl fun a w hk W => ?_)
      have h_b1 := W.keep n_b1_b10 h_b1
      have h_b3 := W.keep n_b3_b10 h_b3
      have h_b4 := W.keep n_b4_b10 h_b4
      have h_b6 := W.keep n_b6_b10 h_b6
      have h_b7 := W.keep n_b7_b10 h_b7
      have h_b8 := W.keep n_b8_b10 h_b8
      have hM := hM.wrote W n_bm_b10
      have hF := hF.newwrote W hg_b10
      have h_b10 := W.at_
      clear W
      refine lnil (hK7 _ _ ?_)
      refine wp_seq_k fun K9 hK9 => ?_
      refine wp_region_lit ?_
      refine ls hk rfl rfl rfl (r_ld1 hk rfl Tryd.underlying157 rfl h_b3) fun a hk => ?_
      refine ls hk rfl rfl rfl (e_move hk rfl _) fun a hk => ?_
      refine ls hk rfl rfl rfl (r_ld1 hk rfl Tryd.underlying3 rfl h_b6) fun a hk => ?_
      refine ls hk rfl rfl rfl (e_buildA (cells := #[I (0 : Nat), I (k : Nat)]) hk rfl zr66 Tryd.underlying66 sz3 rfl _) fun a hk => ?_
      refine ls hk rfl rfl rfl (r_ld44 hk rfl h_b10 (by simp)) fun a hk => ?_
      refine la hk rfl (a_mapset (seed := seed) (l := 0) (k := k) hk rfl rfl rfl hM fun a w o hk W hM2 => ?_)
      have h_b10 := W.keep (hM.ne h_b10) h_b10
      have h_b7 := W.keep (hM.ne h_b7) h_b7
      have hF := hF.trans (Frm.wrote W rfl)
      have hM := hM2
      clear hM2 h_b1 h_b3 h_b4 h_b6
      refine lnil (hK9 _ _ ?_)
      refine wp_seq_k fun K10 hK10 => ?_
      refine wp_region_lit ?_
      refine ls hk rfl rfl rfl (r_ld44 hk rfl h_b10 (by simp)) fun a hk => ?_
      refine la hk rfl (a_st44 (l := nodeAt seed (0) k) hk rfl rfl (by simp) h_b7 rfl fun a w hk W => ?_)
      have hM := hM.wrote W n_bm_b7
      have hF := hF.newwrote W hg_b7
      have h_b7 := W.at_
      refine lnil (hK10 _ _ ?_)
      refine wp_ret ?_
      exact ret44 (l := nodeAt seed (0) k) hk rfl rfl h_b7 (by simp) ⟨rfl, hM, hF⟩
  | succ l ih =>
    intro k w0 hbd h_b1 h_b3 h_b4 hM hG
    have hkl : k ≤ 1000000 := by have : k + 1 ≤ (k + 1) * 2 ^ (l + 1) := Nat.le_mul_of_pos_right _ (Nat.pow_pos (by decide)); omega
    obtain ⟨hl10, hbd⟩ := hbd
    rw [Nat.pow_succ'] at hbd
    have hb2 : (2 * k + 1 + 1) * 2 ^ l ≤ 1000000 := by rw [show 2 * k + 1 + 1 = (k + 1) * 2 by omega, Nat.mul_assoc]; exact hbd
    have hb1 : (2 * k + 1) * 2 ^ l ≤ 1000000 := Nat.le_trans (Nat.mul_le_mul_right _ (by omega)) hb2
    replace ih := fun k w0 h => ih k w0 (And.intro (by omega : l ≤ 1000) h)
    have hF := Frm.refl (fun x => x = bm) w0
    refine start 45 Tryd.func122 rfl rfl rfl fun a hk => ?_
    refine wp_seq_k fun K1 hK1 => ?_
    refine wp_region_lit ?_
    refine la hk rfl (a_box hk rfl rfl fun a w b6 hk G => ?_)
    have n_b1_b6 : b1 ≠ b6 := G.ne h_b1
    have n_b3_b6 : b3 ≠ b6 := G.ne h_b3
    have n_b4_b6 : b4 ≠ b6 := G.ne h_b4
    have hg_b6 : w0.heap.size ≤ b6 := Nat.le_trans hF.size G.ge
    have n_bm_b6 : bm ≠ b6 := Nat.ne_of_lt (Nat.lt_of_lt_of_le hM.lt G.ge)
    have h_b1 := ext_at G.ext h_b1
    have h_b3 := ext_at G.ext h_b3
    have h_b4 := ext_at G.ext h_b4
    have hM := hM.ext G.ext
    have hF := hF.trans (Frm.of_ext G.ext)
    have h_b6 := G.at_
    clear G
    refine la hk rfl (a_alloc hk rfl zr44 fun a w b7 hk G => ?_)
    have n_b1_b7 : b1 ≠ b7 := G.ne h_b1
    have n_b3_b7 : b3 ≠ b7 := G.ne h_b3
    have n_b4_b7 : b4 ≠ b7 := G.ne h_b4
    have n_b6_b7 : b6 ≠ b7 := G.ne h_b6
    have hg_b7 : w0.heap.size ≤ b7 := Nat.le_trans hF.size G.ge
    have n_bm_b7 : bm ≠ b7 := Nat.ne_of_lt (Nat.lt_of_lt_of_le hM.lt G.ge)
    have h_b1 := ext_at G.ext h_b1
    have h_b3 := ext_at G.ext h_b3
    have h_b4 := ext_at G.ext h_b4
    have h_b6 := ext_at G.ext h_b6
    have hM := hM.ext G.ext
    have hF := hF.trans (Frm.of_ext G.ext)
    have h_b7 := G.at_
    clear G
    refine lnil (hK1 _ _ ?_)
    refine wp_seq_k fun K2 hK2 => ?_
    refine wp_seq_k fun K3 hK3 => ?_
    obtain ⟨d, ok, hlk, hd16, hdo⟩ := map_look hM (l + 1) k
    refine wp_region_lit ?_
    refine ls hk rfl rfl rfl (r_ld1 hk rfl Tryd.underlying157 rfl h_b3) fun a hk => ?_
    refine ls hk rfl rfl rfl (e_move hk rfl _) fun a hk => ?_
    refine ls hk rfl rfl rfl (r_ld1 hk rfl Tryd.underlying3 rfl h_b6) fun a hk => ?_
    refine ls hk rfl rfl rfl (e_buildA (cells := #[I (l + 1 : Nat), I (k : Nat)]) hk rfl zr66 Tryd.underlying66 sz3 rfl _) fun a hk => ?_
    refine ls hk rfl rfl rfl (r_look hk rfl rfl hlk) fun a hk => ?_
    refine ls hk rfl rfl rfl (e_move hk rfl _) fun a hk => ?_
    refine ls hk rfl rfl rfl (e_ext hk rfl rfl _) fun a hk => ?_
    refine ls hk rfl rfl rfl (e_ext hk rfl rfl _) fun a hk => ?_
    refine la hk rfl (a_alloc hk rfl zr44 fun a w b8 hk G => ?_)
    have n_b1_b8 : b1 ≠ b8 := G.ne h_b1
    have n_b3_b8 : b3 ≠ b8 := G.ne h_b3
    have n_b4_b8 : b4 ≠ b8 := G.ne h_b4
    have n_b6_b8 : b6 ≠ b8 := G.ne h_b6
    have n_b7_b8 : b7 ≠ b8 := G.ne h_b7
    have hg_b8 : w0.heap.size ≤ b8 := Nat.le_trans hF.size G.ge
    have n_bm_b8 : bm ≠ b8 := Nat.ne_of_lt (Nat.lt_of_lt_of_le hM.lt G.ge)
    have h_b1 := ext_at G.ext h_b1
    have h_b3 := ext_at G.ext h_b3
    have h_b4 := ext_at G.ext h_b4
    have h_b6 := ext_at G.ext h_b6
    have h_b7 := ext_at G.ext h_b7
    have hM := hM.ext G.ext
    have hF := hF.trans (Frm.of_ext G.ext)
    have h_b8 := G.at_
    clear G
    refine la hk rfl (a_st44 (l := d) hk rfl rfl hd16 h_b8 rfl fun a w hk W => ?_)
    have h_b1 := W.keep n_b1_b8 h_b1
    have h_b3 := W.keep n_b3_b8 h_b3
    have h_b4 := W.keep n_b4_b8 h_b4
    have h_b6 := W.keep n_b6_b8 h_b6
    have h_b7 := W.keep n_b7_b8 h_b7
    have hM := hM.wrote W n_bm_b8
    have hF := hF.newwrote W hg_b8
    have h_b8 := W.at_
    clear W
    refine ls hk rfl rfl rfl (e_assign hk rfl _) fun a hk => ?_
    refine lnil (hK3 _ _ ?_)
    refine wp_seq_k fun K4 hK4 => ?_
    refine wp_region_lit ?_
    refine ls hk rfl rfl rfl (e_move hk rfl _) fun a hk => ?_
    refine lnil (hK4 _ _ ?_)
    refine cdB hk rfl (fun hb => ?_) (fun hb => ?_)
    · have hde := hdo hb
      refine wp_seq_k fun K5 hK5 => ?_
      refine wp_region_lit ?_
      refine ls hk rfl rfl rfl (r_ld44 hk rfl h_b8 hd16) fun a hk => ?_
      refine la hk rfl (a_st44 (l := d) hk rfl rfl hd16 h_b7 rfl fun a w hk W => ?_)
      have h_b1 := W.keep n_b1_b7 h_b1
      have h_b3 := W.keep n_b3_b7 h_b3
      have h_b4 := W.keep n_b4_b7 h_b4
      have h_b6 := W.keep n_b6_b7 h_b6
      have h_b8 := W.keep (Ne.symm n_b7_b8) h_b8
      have hM := hM.wrote W n_bm_b7
      have hF := hF.newwrote W hg_b7
      have h_b7 := W.at_
      clear W
      refine lnil (hK5 _ _ ?_)
      refine wp_ret ?_
      simp only [then_ret]
      exact ret44 (l := d) hk rfl rfl h_b7 hd16 ⟨by rw [hde], hM, hF⟩
    · refine wp_skip (hK2 _ _ ?_)
      refine wp_seq_k fun K6 hK6 => ?_
      refine wp_region_lit ?_
      refine la hk rfl (a_alloc hk rfl zr44 fun a w b10 hk G => ?_)
      have n_b1_b10 : b1 ≠ b10 := G.ne h_b1
      have n_b3_b10 : b3 ≠ b10 := G.ne h_b3
      have n_b4_b10 : b4 ≠ b10 := G.ne h_b4
      have n_b6_b10 : b6 ≠ b10 := G.ne h_b6
      have n_b7_b10 : b7 ≠ b10 := G.ne h_b7
      have n_b8_b10 : b8 ≠ b10 := G.ne h_b8
      have hg_b10 : w0.heap.size ≤ b10 := Nat.le_trans hF.size G.ge
      have n_bm_b10 : bm ≠ b10 := Nat.ne_of_lt (Nat.lt_of_lt_of_le hM.lt G.ge)
      have h_b1 := ext_at G.ext h_b1
      have h_b3 := ext_at G.ext h_b3
      have h_b4 := ext_at G.ext h_b4
      have h_b6 := ext_at G.ext h_b6
      have h_b7 := ext_at G.ext h_b7
      have h_b8 := ext_at G.ext h_b8
      have hM := hM.ext G.ext
      have hF := hF.trans (Frm.of_ext G.ext)
      have h_b10 := G.at_
      clear G
      refine lnil (hK6 _ _ ?_)
      refine wp_seq_k fun K7 hK7 => ?_
      refine wp_seq_k fun K8 hK8 => ?_
      refine wp_region_lit ?_
      refine ls hk rfl rfl rfl (e_move hk rfl _) fun a hk => ?_
      refine ls hk rfl rfl rfl (e_eql (b := false) hk rfl rfl (decide_eq_false (by omega)) _) fun a hk => ?_
      refine lnil (hK8 _ _ ?_)
      refine cdF hk rfl ?_
      refine wp_region_ok (fun w => w.heap[b4]? = some (.cells #[atV b1 b3 b4] 109 (0, 0)) ∧ w.heap[b6]? = some (.cells #[I (k : Nat)] 3 (0, 0))) [1, 0, 0, 1, 0, 4, 3, 0, 0, 3, 0, 0, 2, 2, 2] mixed ?_
      have h_b1 := ext_at (ext_drew w) h_b1
      have h_b3 := ext_at (ext_drew w) h_b3
      have h_b4 := ext_at (ext_drew w) h_b4
      have h_b6 := ext_at (ext_drew w) h_b6
      have h_b7 := ext_at (ext_drew w) h_b7
      have h_b8 := ext_at (ext_drew w) h_b8
      have h_b10 := ext_at (ext_drew w) h_b10
      have hM := hM.ext (ext_drew w)
      have hF := hF.trans (Frm.of_ext (ext_drew w))
      have hS : (fun w => w.heap[b4]? = some (.cells #[atV b1 b3 b4] 109 (0, 0)) ∧ w.heap[b6]? = some (.cells #[I (k : Nat)] 3 (0, 0))) w.drew := ⟨h_b4, h_b6⟩
      refine d1 0 hk rfl (by kernel_rfl) rfl rfl rfl rfl (r_ld1 hk rfl Tryd.underlying109 rfl h_b4) fun a hk => ?_
      refine d0 1 hk rfl (by kernel_rfl) rfl rfl rfl rfl (fun _ => e_move hk rfl _) fun a hk => ?_
      refine d0 2 hk rfl (by kernel_rfl) rfl rfl rfl rfl (fun _ => e_sub (q := ((l : Nat) : Int)) hk rfl rfl (by rw [i64 (by omega) (by omega)]; omega) _) fun a hk => ?_
      refine d1 3 hk rfl (by kernel_rfl) rfl rfl rfl rfl (r_ld1 hk rfl Tryd.underlying3 rfl h_b6) fun a hk => ?_
      refine d0 4 hk rfl (by kernel_rfl) rfl rfl rfl rfl (fun _ => e_mul (q := ((2 * k : Nat) : Int)) hk rfl rfl (by rw [i64 (by omega) (by omega)]; omega) _) fun a hk => ?_
      refine da4 5 hk rfl (by kernel_rfl) rfl rfl hS (a_call hk rfl rfl (c_val (f := 122) (first := []) (captured := [.pointer (some ⟨b3, 0, none⟩), .pointer (some ⟨b1, 0, none⟩), .pointer (some ⟨b4, 0, none⟩)]) hk rfl rfl ok122) (ih (2 * k) _ hb1 h_b1 h_b3 h_b4 hM (hG.frm hF hm1)) ?_)
      rintro e w ⟨rfl, hM1, hE⟩
      refine ⟨_, rfl, fun a hk => ⟨⟨(by first | exact ext_at hE hS.1 | exact hE.at_ (hM.ne hS.1) hS.1), (by first | exact ext_at hE hS.2 | exact hE.at_ (hM.ne hS.2) hS.2)⟩, ?_⟩⟩
      have hS : (fun w => w.heap[b4]? = some (.cells #[atV b1 b3 b4] 109 (0, 0)) ∧ w.heap[b6]? = some (.cells #[I (k : Nat)] 3 (0, 0))) w := ⟨hE.at_ (hM.ne hS.1) hS.1, hE.at_ (hM.ne hS.2) hS.2⟩
      have h_b1 := hE.at_ (hM.ne h_b1) h_b1
      have h_b3 := hE.at_ (hM.ne h_b3) h_b3
      have h_b4 := hE.at_ (hM.ne h_b4) h_b4
      have h_b6 := hE.at_ (hM.ne h_b6) h_b6
      have h_b7 := hE.at_ (hM.ne h_b7) h_b7
      have h_b8 := hE.at_ (hM.ne h_b8) h_b8
      have h_b10 := hE.at_ (hM.ne h_b10) h_b10
      have hF := hF.trans hE
      have hM := hM1
      clear hE hM1
      refine d3 6 hk rfl (by kernel_rfl) rfl rfl rfl rfl hS (fun w hS => r_ld1 hk rfl Tryd.underlying109 rfl hS.1) fun a hk => ?_
      refine d0 7 hk rfl (by kernel_rfl) rfl rfl rfl rfl (fun _ => e_move hk rfl _) fun a hk => ?_
      refine d0 8 hk rfl (by kernel_rfl) rfl rfl rfl rfl (fun _ => e_sub (q := ((l : Nat) : Int)) hk rfl rfl (by rw [i64 (by omega) (by omega)]; omega) _) fun a hk => ?_
      refine d3 9 hk rfl (by kernel_rfl) rfl rfl rfl rfl hS (fun w hS => r_ld1 hk rfl Tryd.underlying3 rfl hS.2) fun a hk => ?_
      refine d0 10 hk rfl (by kernel_rfl) rfl rfl rfl rfl (fun _ => e_mul (q := ((2 * k : Nat) : Int)) hk rfl rfl (by rw [i64 (by omega) (by omega)]; omega) _) fun a hk => ?_
      refine d0 11 hk rfl (by kernel_rfl) rfl rfl rfl rfl (fun _ => e_add (q := ((2 * k + 1 : Nat) : Int)) hk rfl rfl (by rw [i64 (by omega) (by omega)]; omega) _) fun a hk => ?_
      refine da 12 hk rfl (by kernel_rfl) rfl rfl (a_call hk rfl rfl (c_val (f := 122) (first := []) (captured := [.pointer (some ⟨b3, 0, none⟩), .pointer (some ⟨b1, 0, none⟩), .pointer (some ⟨b4, 0, none⟩)]) hk rfl rfl ok122) (ih (2 * k + 1) _ hb2 h_b1 h_b3 h_b4 hM (hG.frm hF hm1)) ?_)
      rintro e w ⟨rfl, hM1, hE⟩
      refine ⟨_, rfl, fun a hk => ?_⟩
      have hS : (fun w => w.heap[b4]? = some (.cells #[atV b1 b3 b4] 109 (0, 0)) ∧ w.heap[b6]? = some (.cells #[I (k : Nat)] 3 (0, 0))) w := ⟨hE.at_ (hM.ne hS.1) hS.1, hE.at_ (hM.ne hS.2) hS.2⟩
      have h_b1 := hE.at_ (hM.ne h_b1) h_b1
      have h_b3 := hE.at_ (hM.ne h_b3) h_b3
      have h_b4 := hE.at_ (hM.ne h_b4) h_b4
      have h_b6 := hE.at_ (hM.ne h_b6) h_b6
      have h_b7 := hE.at_ (hM.ne h_b7) h_b7
      have h_b8 := hE.at_ (hM.ne h_b8) h_b8
      have h_b10 := hE.at_ (hM.ne h_b10) h_b10
      have hF := hF.trans hE
      have hM := hM1
      clear hE hM1
      refine da 13 hk rfl (by kernel_rfl) rfl rfl (a_call hk rfl rfl (c_fn hk rfl ok86) (c86 (nodeAt seed l (2 * k)) (nodeAt seed l (2 * k + 1)) _ (hG.frm hF hm1) (by simp) (by simp)) ?_)
      rintro e w ⟨rfl, hE⟩
      refine ⟨_, rfl, fun a hk => ?_⟩
      have hS : (fun w => w.heap[b4]? = some (.cells #[atV b1 b3 b4] 109 (0, 0)) ∧ w.heap[b6]? = some (.cells #[I (k : Nat)] 3 (0, 0))) w := ⟨(by first | exact ext_at hE hS.1 | exact hE.at_ (hM.ne hS.1) hS.1), (by first | exact ext_at hE hS.2 | exact hE.at_ (hM.ne hS.2) hS.2)⟩
      have h_b1 := ext_at hE h_b1
      have h_b3 := ext_at hE h_b3
      have h_b4 := ext_at hE h_b4
      have h_b6 := ext_at hE h_b6
      have h_b7 := ext_at hE h_b7
      have h_b8 := ext_at hE h_b8
      have h_b10 := ext_at hE h_b10
      have hM := hM.ext hE
      have hF := hF.trans (Frm.of_ext hE)
      clear hE
      refine da 14 hk rfl (by kernel_rfl) rfl rfl (a_st44 (l := nodeAt seed (l + 1) k) hk rfl rfl (by simp) h_b10 rfl fun a w hk W => ?_)
      have h_b1 := W.keep n_b1_b10 h_b1
      have h_b3 := W.keep n_b3_b10 h_b3
      have h_b4 := W.keep n_b4_b10 h_b4
      have h_b6 := W.keep n_b6_b10 h_b6
      have h_b7 := W.keep n_b7_b10 h_b7
      have h_b8 := W.keep n_b8_b10 h_b8
      have hM := hM.wrote W n_bm_b10
      have hF := hF.newwrote W hg_b10
      have h_b10 := W.at_
      clear W
      refine okFin (by kernel_rfl) (hK7 _ _ ?_)
      refine wp_seq_k fun K9 hK9 => ?_
      refine wp_region_lit ?_
      refine ls hk rfl rfl rfl (r_ld1 hk rfl Tryd.underlying157 rfl h_b3) fun a hk => ?_
      refine ls hk rfl rfl rfl (e_move hk rfl _) fun a hk => ?_
      refine ls hk rfl rfl rfl (r_ld1 hk rfl Tryd.underlying3 rfl h_b6) fun a hk => ?_
      refine ls hk rfl rfl rfl (e_buildA (cells := #[I (l + 1 : Nat), I (k : Nat)]) hk rfl zr66 Tryd.underlying66 sz3 rfl _) fun a hk => ?_
      refine ls hk rfl rfl rfl (r_ld44 hk rfl h_b10 (by simp)) fun a hk => ?_
      refine la hk rfl (a_mapset (seed := seed) (l := l + 1) (k := k) hk rfl rfl rfl hM fun a w o hk W hM2 => ?_)
      have h_b10 := W.keep (hM.ne h_b10) h_b10
      have h_b7 := W.keep (hM.ne h_b7) h_b7
      have hF := hF.trans (Frm.wrote W rfl)
      have hM := hM2
      clear hM2 h_b1 h_b3 h_b4 h_b6
      refine lnil (hK9 _ _ ?_)
      refine wp_seq_k fun K10 hK10 => ?_
      refine wp_region_lit ?_
      refine ls hk rfl rfl rfl (r_ld44 hk rfl h_b10 (by simp)) fun a hk => ?_
      refine la hk rfl (a_st44 (l := nodeAt seed (l + 1) k) hk rfl rfl (by simp) h_b7 rfl fun a w hk W => ?_)
      have hM := hM.wrote W n_bm_b7
      have hF := hF.newwrote W hg_b7
      have h_b7 := W.at_
      refine lnil (hK10 _ _ ?_)
      refine wp_ret ?_
      exact ret44 (l := nodeAt seed (l + 1) k) hk rfl rfl h_b7 (by simp) ⟨rfl, hM, hF⟩

/-- What the function that computes nodes stands on. -/
structure NJ (seed : List UInt8) (b1 b3 b4 bm C : Nat) (w : World) : Prop where
  s1 : w.heap[b1]? = some (.cells #[Str seed] 9 (0, 0))
  s3 : w.heap[b3]? = some (.cells #[.map (some bm)] 157 (0, 0))
  s4 : w.heap[b4]? = some (.cells #[atV b1 b3 b4] 109 (0, 0))
  mp : MapOk seed bm w
  lt : b1 < C ∧ b3 < C ∧ b4 < C ∧ bm < C
theorem NJ.below {seed : List UInt8} {b1 b3 b4 bm C : Nat} {w w' : World} (h : NJ seed b1 b3 b4 bm C w) (hB : Below C w w') : NJ seed b1 b3 b4 bm C w' := by
  obtain ⟨s1, s3, s4, ⟨es, c, m1, m2⟩, l1, l2, l3, l4⟩ := h
  exact ⟨below_at hB l1 s1, below_at hB l2 s3, below_at hB l3 s4, ⟨es, c, below_at hB l4 m1, m2⟩, l1, l2, l3, l4⟩
theorem NJ.ext {seed : List UInt8} {b1 b3 b4 bm C : Nat} {w w' : World} (h : NJ seed b1 b3 b4 bm C w) (hE : Ext w w') : NJ seed b1 b3 b4 bm C w' :=
  ⟨ext_at hE h.s1, ext_at hE h.s3, ext_at hE h.s4, h.mp.ext hE, h.lt⟩
theorem NJ.frm {S : Nat → Prop} {seed : List UInt8} {b1 b3 b4 bm C : Nat} {w w' : World} (h : NJ seed b1 b3 b4 bm C w) (hF : Frm S w w') (hS : ∀ k, k < C → ¬ S k) : NJ seed b1 b3 b4 bm C w' := by
  obtain ⟨s1, s3, s4, ⟨es, c, m1, m2⟩, l1, l2, l3, l4⟩ := h
  exact ⟨hF.at_ (hS _ l1) s1, hF.at_ (hS _ l2) s3, hF.at_ (hS _ l3) s4, ⟨es, c, hF.at_ (hS _ l4) m1, m2⟩, l1, l2, l3, l4⟩
/-- A node is computed. -/
theorem node_at (seed : List UInt8) (hs : seed.length ≤ 1000000) (b1 b3 b4 bm C l k : Nat) (w0 : World) (hm1 : 1 ≠ bm) (hl : l ≤ 1000) (hbd : (k + 1) * 2 ^ l ≤ 1000000) (h : NJ seed b1 b3 b4 bm C w0) (hG : GH w0) :
    Calls Tryd.prog 122 #[I (l : Nat), I (k : Nat), .pointer (some ⟨b3, 0, none⟩), .pointer (some ⟨b1, 0, none⟩), .pointer (some ⟨b4, 0, none⟩)] w0 fun e w' => e = .returned (D (nodeAt seed l k)) ∧ NJ seed b1 b3 b4 bm C w' ∧ Frm (fun x => x = bm) w0 w' :=
  (c122 seed hs b1 b3 b4 bm hm1 l k w0 ⟨hl, hbd⟩ h.s1 h.s3 h.s4 h.mp hG).mono fun _ _ ⟨he, hM, hF⟩ =>
    ⟨he, ⟨hF.at_ (h.mp.ne h.s1) h.s1, hF.at_ (h.mp.ne h.s3) h.s3, hF.at_ (h.mp.ne h.s4) h.s4, hM, h.lt⟩, hF⟩

set_option maxRecDepth 4000 in
set_option maxHeartbeats 1000000 in
theorem c76 (seed : List UInt8) (w0 : World) : Calls Tryd.prog 76 #[Str seed] w0 fun e w' => ∃ b1 b3 b4 bm, e = .returned (atV b1 b3 b4) ∧ NJ seed b1 b3 b4 bm w'.heap.size w' ∧ Ext w0 w' ∧ w0.heap.size ≤ bm := by
  refine start 8 Tryd.func76 rfl rfl rfl fun a hk => ?_
  have hB : Ext w0 w0 := Below.refl _ _
  refine wp_seq_k fun K1 hK1 => ?_
  refine wp_region_lit ?_
  refine la hk rfl (a_box hk rfl rfl fun a w b1 hk G => ?_)
  have hg_b1 : w0.heap.size ≤ b1 := Nat.le_trans hB.size G.ge
  have hB := ext_trans hB G.ext
  have h_b1 := G.at_
  clear G
  refine ls hk rfl rfl rfl (e_assign hk rfl _) fun a hk => ?_
  refine lnil (hK1 _ _ ?_)
  refine wp_seq_k fun K2 hK2 => ?_
  refine wp_region_lit ?_
  refine la hk rfl (a_mkmap hk rfl fun a w bm hk G => ?_)
  have n_b1_bm : b1 ≠ bm := G.ne h_b1
  have hg_bm : w0.heap.size ≤ bm := Nat.le_trans hB.size G.ge
  have h_b1 := ext_at G.ext h_b1
  have hB := ext_trans hB G.ext
  have h_bm := G.at_
  clear G
  refine la hk rfl (a_alloc hk rfl zr157 fun a w b3 hk G => ?_)
  have n_b1_b3 : b1 ≠ b3 := G.ne h_b1
  have n_bm_b3 : bm ≠ b3 := G.ne h_bm
  have hg_b3 : w0.heap.size ≤ b3 := Nat.le_trans hB.size G.ge
  have h_b1 := ext_at G.ext h_b1
  have h_bm := ext_at G.ext h_bm
  have hB := ext_trans hB G.ext
  have h_b3 := G.at_
  clear G
  refine la hk rfl (a_st1 hk rfl rfl rfl sz157 h_b3 fun a w hk W => ?_)
  have h_b1 := W.keep n_b1_b3 h_b1
  have h_bm := W.keep n_bm_b3 h_bm
  have hB := W.below hB hg_b3
  have h_b3 := W.at_
  clear W
  refine lnil (hK2 _ _ ?_)
  refine wp_seq_k fun K3 hK3 => ?_
  refine wp_region_lit ?_
  refine la hk rfl (a_alloc hk rfl zr109 fun a w b4 hk G => ?_)
  have n_b1_b4 : b1 ≠ b4 := G.ne h_b1
  have n_bm_b4 : bm ≠ b4 := G.ne h_bm
  have n_b3_b4 : b3 ≠ b4 := G.ne h_b3
  have hg_b4 : w0.heap.size ≤ b4 := Nat.le_trans hB.size G.ge
  have h_b1 := ext_at G.ext h_b1
  have h_bm := ext_at G.ext h_bm
  have h_b3 := ext_at G.ext h_b3
  have hB := ext_trans hB G.ext
  have h_b4 := G.at_
  clear G
  refine lnil (hK3 _ _ ?_)
  refine wp_seq_k fun K4 hK4 => ?_
  refine wp_region_lit ?_
  refine ls hk rfl rfl rfl (e_func hk rfl rfl _) fun a hk => ?_
  refine la hk rfl (a_st1 hk rfl rfl rfl sz109 h_b4 fun a w hk W => ?_)
  have h_b1 := W.keep n_b1_b4 h_b1
  have h_bm := W.keep n_bm_b4 h_bm
  have h_b3 := W.keep n_b3_b4 h_b3
  have hB := W.below hB hg_b4
  have h_b4 := W.at_
  clear W
  refine lnil (hK4 _ _ ?_)
  refine wp_seq_k fun K5 hK5 => ?_
  refine wp_region_lit ?_
  refine ls hk rfl rfl rfl (r_ld1 hk rfl Tryd.underlying109 rfl h_b4) fun a hk => ?_
  refine ls hk rfl rfl rfl (e_assign hk rfl _) fun a hk => ?_
  refine lnil (hK5 _ _ ?_)
  refine wp_ret ?_
  exact ret1 hk rfl rfl ⟨b1, b3, b4, bm, rfl, ⟨h_b1, h_b3, h_b4, ⟨_, _, h_bm, by simp⟩, heap_lt h_b1, heap_lt h_b3, heap_lt h_b4, heap_lt h_bm⟩, hB, hg_bm⟩

set_option maxRecDepth 4000 in
set_option maxHeartbeats 1000000 in
theorem c37 (seed : List UInt8) (h : Int) (w0 : World) (hG : GH w0) (hs : seed.length ≤ 1000000) : Calls Tryd.prog 37 #[Str seed, I h] w0 fun e w' => e = .returned (.tuple #[D (pubR seed h).1, I (pubR seed h).2]) ∧ Ext w0 w' := by
  refine start 19 Tryd.func37 rfl rfl rfl fun a hk => ?_
  have hB : Ext w0 w0 := Below.refl _ _
  refine wp_seq_k fun K1 hK1 => ?_
  refine wp_region_lit ?_
  refine la hk rfl (a_alloc hk rfl zr44 fun a w b4 hk G => ?_)
  have hg_b4 : w0.heap.size ≤ b4 := Nat.le_trans hB.size G.ge
  have hB := ext_trans hB G.ext
  have h_b4 := G.at_
  clear G
  refine ls hk rfl rfl rfl (e_assign hk rfl _) fun a hk => ?_
  refine lnil (hK1 _ _ ?_)
  refine wp_seq_k fun K2 hK2 => ?_
  refine wp_seq_k fun K3 hK3 => ?_
  by_cases h32 : seed.length = 32
  · refine wp_region_lit ?_
    refine ls hk rfl rfl rfl (e_move hk rfl _) fun a hk => ?_
    refine ls hk rfl rfl rfl (e_lenStr hk rfl Tryd.underlying9 _) fun a hk => ?_
    refine ls hk rfl rfl rfl (e_neq (b := false) hk rfl rfl (by simp [h32]) _) fun a hk => ?_
    refine ls hk rfl rfl rfl (e_move hk rfl _) fun a hk => ?_
    refine ls hk rfl rfl rfl (e_move hk rfl _) fun a hk => ?_
    refine la hk rfl (a_call hk rfl rfl (c_fn hk rfl ok75) (c75 h _) ?_)
    rintro e w ⟨rfl, hE⟩
    refine ⟨_, rfl, fun a hk => ?_⟩
    have h_b4 := ext_at hE h_b4
    have hB := ext_trans hB hE
    clear hE
    refine ls hk rfl rfl rfl (e_not hk rfl _) fun a hk => ?_
    refine ls hk rfl rfl rfl (e_pickF hk rfl rfl _) fun a hk => ?_
    refine lnil (hK3 _ _ ?_)
    refine cdB hk rfl (fun hb => ?_) (fun hb => ?_)
    · have hbad : ¬ (0 ≤ h ∧ h ≤ 6) := fun hc => by rw [decide_eq_true hc] at hb; cases hb
      refine wp_seq_k fun K4 hK4 => ?_
      refine wp_region_lit ?_
      refine ls hk rfl rfl rfl (e_zero44 hk _) fun a hk => ?_
      refine la hk rfl (a_st44 (l := zD) hk rfl rfl (by simp [zD]) h_b4 rfl fun a w hk W => ?_)
      have hB := W.below hB hg_b4
      have h_b4 := W.at_
      clear W
      refine ls hk rfl rfl rfl (e_assign hk rfl _) fun a hk => ?_
      refine lnil (hK4 _ _ ?_)
      refine wp_ret ?_
      simp only [then_ret]
      exact ret44b (l := zD) hk rfl rfl rfl h_b4 (by simp [zD]) ⟨by rw [show pubR seed h = (zD, 1) by unfold pubR; rw [if_pos (by omega)]], hB⟩
    · have hgood : 0 ≤ h ∧ h ≤ 6 := Classical.byContradiction fun hc => by rw [decide_eq_false hc] at hb; cases hb
      refine wp_skip (hK2 _ _ ?_)
      refine wp_seq_k fun K5 hK5 => ?_
      obtain ⟨n, rfl⟩ : ∃ n : Nat, h = n := ⟨h.toNat, by omega⟩
      have h1 := gh_lt hG
      have hn6 : 2 ^ n ≤ 2 ^ 6 := Nat.pow_le_pow_right (by decide) (by omega)
      refine wp_region_lit ?_
      refine ls hk rfl rfl rfl (e_move hk rfl _) fun a hk => ?_
      have hBs := hB.size
      refine la hk rfl (a_call hk rfl rfl (c_fn hk rfl ok76) (c76 seed _) ?_)
      rintro e w ⟨b1, b3, b9, bm, rfl, hN, hE, hgm⟩
      refine ⟨_, rfl, fun a hk => ?_⟩
      have h_b4 := ext_at hE h_b4
      have hB := ext_trans hB hE
      have hgm : w0.heap.size ≤ bm := Nat.le_trans hBs hgm
      clear hE
      refine ls hk rfl rfl rfl (e_move hk rfl _) fun a hk => ?_
      refine la hk rfl (a_call hk rfl rfl (c_val (f := 122) (first := []) (captured := [.pointer (some ⟨b3, 0, none⟩), .pointer (some ⟨b1, 0, none⟩), .pointer (some ⟨b9, 0, none⟩)]) hk rfl rfl ok122) (node_at seed (by omega) b1 b3 b9 bm _ n 0 _ (by omega) (by omega) (by omega) hN (hG.ext hB)) ?_)
      rintro e w ⟨rfl, _, hF⟩
      refine ⟨_, rfl, fun a hk => ?_⟩
      have h_b4 := hF.at_ (hN.mp.ne h_b4) h_b4
      have hB := hF.below hB hB.size (fun k hk => by intro e; omega)
      clear hN hF
      refine la hk rfl (a_st44 (l := nodeAt seed n 0) hk rfl rfl (by simp) h_b4 rfl fun a w hk W => ?_)
      have hB := W.below hB hg_b4
      have h_b4 := W.at_
      clear W
      refine ls hk rfl rfl rfl (e_assign hk rfl _) fun a hk => ?_
      refine lnil (hK5 _ _ ?_)
      refine wp_ret ?_
      exact ret44b (l := nodeAt seed n 0) hk rfl rfl rfl h_b4 (by simp) ⟨by rw [show pubR seed (n : Int) = (nodeAt seed n 0, 0) by unfold pubR; rw [if_neg (by omega)]; rfl], hB⟩
  · refine wp_region_lit ?_
    refine ls hk rfl rfl rfl (e_move hk rfl _) fun a hk => ?_
    refine ls hk rfl rfl rfl (e_lenStr hk rfl Tryd.underlying9 _) fun a hk => ?_
    refine ls hk rfl rfl rfl (e_neq (b := true) hk rfl rfl (by simp; omega) _) fun a hk => ?_
    refine ls hk rfl rfl rfl (e_move hk rfl _) fun a hk => ?_
    refine lno hk rfl rfl rfl fun a hk => ?_
    refine lno hk rfl rfl rfl fun a hk => ?_
    refine lno hk rfl rfl rfl fun a hk => ?_
    refine ls hk rfl rfl rfl (e_pickT hk rfl rfl _) fun a hk => ?_
    refine lnil (hK3 _ _ ?_)
    refine cdT hk rfl ?_
    refine wp_seq_k fun K6 hK6 => ?_
    refine wp_region_lit ?_
    refine ls hk rfl rfl rfl (e_zero44 hk _) fun a hk => ?_
    refine la hk rfl (a_st44 (l := zD) hk rfl rfl (by simp [zD]) h_b4 rfl fun a w hk W => ?_)
    have hB := W.below hB hg_b4
    have h_b4 := W.at_
    clear W
    refine ls hk rfl rfl rfl (e_assign hk rfl _) fun a hk => ?_
    refine lnil (hK6 _ _ ?_)
    refine wp_ret ?_
    simp only [then_ret]
    exact ret44b (l := zD) hk rfl rfl rfl h_b4 (by simp [zD]) ⟨by rw [show pubR seed h = (zD, 1) by unfold pubR; rw [if_pos (by omega)]], hB⟩

end Go.Proofs.YtidfbboalbchiaaDoor

namespace Go.Proofs.YtidfbboalbchiaaDoor
open Go Go.RowKit

theorem i_shrN (m s : Nat) (h : s < 64) : ((m : Int)).fdiv (2 ^ min ((s : Nat) : Int).toNat IntKind.i64.bits) = ((m / 2 ^ s : Nat) : Int) := by
  rw [Int.toNat_natCast, Nat.min_eq_left (by show s ≤ 64; omega), Int.ofNat_fdiv]
  push_cast
  rfl
theorem xor_sib : ∀ y, y < 64 → IntKind.i64.wrap ((BitVec.ofInt IntKind.i64.bits ((y : Nat) : Int) ^^^ BitVec.ofInt IntKind.i64.bits 1).toNat : Int) = ((sib y : Nat) : Int) := by decide +kernel
theorem sib_le (y : Nat) : sib y ≤ y + 1 := by unfold sib; split <;> omega
theorem digI_arr (d : List UInt8) (i : Nat) (h : i < 68) : ((digI d).map I).toArray[0 + i]? = some (I ((dig d i : Nat) : Int)) := by
  rw [Nat.zero_add, List.getElem?_toArray, List.getElem?_map, digI_get d i h]; rfl
theorem sib_bound (x l : Nat) (hx : x < 64) (hl : l < 6) : (sib (x / 2 ^ l) + 1) * 2 ^ l ≤ 1000000 := by
  have h1 := sib_le (x / 2 ^ l)
  have h2 := Nat.div_mul_le_self x (2 ^ l)
  have h3 : 2 ^ l ≤ 2 ^ 6 := Nat.pow_le_pow_right (by decide) (by omega)
  have h4 : (sib (x / 2 ^ l) + 1) * 2 ^ l ≤ (x / 2 ^ l + 2) * 2 ^ l := Nat.mul_le_mul_right _ (by omega)
  have h5 : (x / 2 ^ l + 2) * 2 ^ l = x / 2 ^ l * 2 ^ l + 2 * 2 ^ l := Nat.add_mul _ _ _
  omega

set_option maxRecDepth 4000 in
set_option maxHeartbeats 1000000 in
theorem c39 (seed : List UInt8) (h i : Int) (hi : is64 i) (m : List UInt8) (hm : m.length ≤ 1000000) (w0 : World) (hG : GH w0) : Calls Tryd.prog 39 #[Str seed, I h, I i, Str m] w0 fun e w' => e = .returned (.tuple #[Str (sigR seed h i m).1, I (sigR seed h i m).2]) ∧ Ext w0 w' := by
  refine start 83 Tryd.func39 rfl rfl rfl fun a hk => ?_
  have hB : Ext w0 w0 := Below.refl _ _
  refine wp_seq_k fun K1 hK1 => ?_
  refine wp_region_lit ?_
  refine ls hk rfl rfl rfl (e_assign hk rfl _) fun a hk => ?_
  refine ls hk rfl rfl rfl (e_assign hk rfl _) fun a hk => ?_
  refine lnil (hK1 _ _ ?_)
  refine wp_seq_k fun K2 hK2 => ?_
  refine wp_block ?_
  refine wp_seq_k fun K3 hK3 => ?_
  by_cases h32 : seed.length = 32
  · refine wp_region_lit ?_
    refine ls hk rfl rfl rfl (e_move hk rfl _) fun a hk => ?_
    refine ls hk rfl rfl rfl (e_lenStr hk rfl Tryd.underlying9 _) fun a hk => ?_
    refine ls hk rfl rfl rfl (e_neq (b := false) hk rfl rfl (by simp [h32]) _) fun a hk => ?_
    refine ls hk rfl rfl rfl (e_move hk rfl _) fun a hk => ?_
    refine ls hk rfl rfl rfl (e_move hk rfl _) fun a hk => ?_
    refine la hk rfl (a_call hk rfl rfl (c_fn hk rfl ok75) (c75 h _) ?_)
    rintro e w ⟨rfl, hE⟩
    refine ⟨_, rfl, fun a hk => ?_⟩
    have hB := ext_trans hB hE
    clear hE
    refine ls hk rfl rfl rfl (e_not hk rfl _) fun a hk => ?_
    refine ls hk rfl rfl rfl (e_pickF hk rfl rfl _) fun a hk => ?_
    refine ls hk rfl rfl rfl (e_assign hk rfl _) fun a hk => ?_
    refine lnil (hK3 _ _ ?_)
    refine cdB hk rfl (fun hb => ?_) (fun hb => ?_)
    · have hbad : ¬ (0 ≤ h ∧ h ≤ 6) := fun hc => by rw [decide_eq_true hc] at hb; cases hb
      refine wp_seq_k fun K4 hK4 => ?_
      refine wp_region_lit ?_
      refine ls hk rfl rfl rfl (e_assign hk rfl _) fun a hk => ?_
      refine ls hk rfl rfl rfl (e_assign hk rfl _) fun a hk => ?_
      refine lnil (hK4 _ _ ?_)
      refine wp_ret ?_
      simp only [blk_ret, then_ret]
      exact ret2 hk rfl rfl rfl ⟨by rw [show sigR seed h i m = ([], 1) by unfold sigR; rw [if_pos (by omega)]], hB⟩
    · have hgood : 0 ≤ h ∧ h ≤ 6 := Classical.byContradiction fun hc => by rw [decide_eq_false hc] at hb; cases hb
      obtain ⟨ht, rfl⟩ : ∃ ht : Nat, h = ht := ⟨h.toNat, by omega⟩
      have hn6 : 2 ^ ht ≤ 2 ^ 6 := Nat.pow_le_pow_right (by decide) (by omega)
      refine wp_seq_k fun K5 hK5 => ?_
      rcases (by omega : i < 0 ∨ 0 ≤ i) with hi0 | hi0
      · refine wp_region_lit ?_
        refine ls hk rfl rfl rfl (e_move hk rfl _) fun a hk => ?_
        refine ls hk rfl rfl rfl (e_lss (b := true) hk rfl rfl (decide_eq_true hi0) _) fun a hk => ?_
        refine ls hk rfl rfl rfl (e_move hk rfl _) fun a hk => ?_
        refine lno hk rfl rfl rfl fun a hk => ?_
        refine lno hk rfl rfl rfl fun a hk => ?_
        refine lno hk rfl rfl rfl fun a hk => ?_
        refine lno hk rfl rfl rfl fun a hk => ?_
        refine ls hk rfl rfl rfl (e_pickT hk rfl rfl _) fun a hk => ?_
        refine ls hk rfl rfl rfl (e_assign hk rfl _) fun a hk => ?_
        refine lnil (hK5 _ _ ?_)
        refine cdT hk rfl ?_
        refine wp_seq_k fun K6 hK6 => ?_
        refine wp_region_lit ?_
        refine ls hk rfl rfl rfl (e_assign hk rfl _) fun a hk => ?_
        refine ls hk rfl rfl rfl (e_assign hk rfl _) fun a hk => ?_
        refine lnil (hK6 _ _ ?_)
        refine wp_ret ?_
        simp only [blk_ret, then_ret]
        exact ret2 hk rfl rfl rfl ⟨by rw [show sigR seed (ht : Int) i m = ([], 22) by unfold sigR; rw [if_neg (by omega), if_pos (by omega)]], hB⟩
      · refine wp_region_lit ?_
        refine ls hk rfl rfl rfl (e_move hk rfl _) fun a hk => ?_
        refine ls hk rfl rfl rfl (e_lss (b := false) hk rfl rfl (decide_eq_false (by omega)) _) fun a hk => ?_
        refine ls hk rfl rfl rfl (e_move hk rfl _) fun a hk => ?_
        refine ls hk rfl rfl rfl (e_move hk rfl _) fun a hk => ?_
        refine ls hk rfl rfl rfl (e_move hk rfl _) fun a hk => ?_
        refine ls hk rfl rfl rfl (e_shl (q := ((2 ^ ht : Nat) : Int)) hk rfl rfl (by omega) (by rw [Int.toNat_natCast, Nat.min_eq_left (by show _ ≤ 64; omega), show (1 : Int) * 2 ^ ht = ((2 ^ ht : Nat) : Int) by push_cast; omega]; exact i64 (Int.le_trans (by decide) (Int.natCast_nonneg (2 ^ ht))) (by omega)) _) fun a hk => ?_
        refine ls hk rfl rfl rfl (e_geq hk rfl rfl rfl _) fun a hk => ?_
        refine ls hk rfl rfl rfl (e_pickF hk rfl rfl _) fun a hk => ?_
        refine ls hk rfl rfl rfl (e_assign hk rfl _) fun a hk => ?_
        refine lnil (hK5 _ _ ?_)
        refine cdB hk rfl (fun hb => ?_) (fun hb => ?_)
        · have hix : i ≥ ((2 ^ ht : Nat) : Int) := of_decide_eq_true hb
          refine wp_seq_k fun K7 hK7 => ?_
          refine wp_region_lit ?_
          refine ls hk rfl rfl rfl (e_assign hk rfl _) fun a hk => ?_
          refine ls hk rfl rfl rfl (e_assign hk rfl _) fun a hk => ?_
          refine lnil (hK7 _ _ ?_)
          refine wp_ret ?_
          simp only [blk_ret, then_ret]
          exact ret2 hk rfl rfl rfl ⟨by rw [show sigR seed (ht : Int) i m = ([], 22) by unfold sigR; rw [if_neg (by omega), if_pos (.inr (by rw [Int.toNat_natCast]; exact hix))]], hB⟩
        · have hix : ¬ i ≥ ((2 ^ ht : Nat) : Int) := of_decide_eq_false hb
          refine wp_seq_k fun K8 hK8 => ?_
          refine wp_region_lit ?_
          refine ls hk rfl rfl rfl (e_move hk rfl _) fun a hk => ?_
          refine ls hk rfl rfl rfl (e_lenStr hk rfl Tryd.underlying9 _) fun a hk => ?_
          refine ls hk rfl rfl rfl (e_gtr (b := false) hk rfl rfl (decide_eq_false (by omega)) _) fun a hk => ?_
          refine ls hk rfl rfl rfl (e_assign hk rfl _) fun a hk => ?_
          refine lnil (hK8 _ _ ?_)
          refine cdF hk rfl ?_
          refine wp_skip (hK2 _ _ ?_)
          refine wp_seq_k fun K9 hK9 => ?_
          obtain ⟨x, rfl⟩ : ∃ x : Nat, i = x := ⟨i.toNat, by omega⟩
          have h1 := gh_lt hG
          have hx64 : x < 64 := by omega
          have hxl := length_encI_le x
          have hxe := length_encI x
          have hd16 : ((digestS (nodeAt seed ht 0) x m)).length = 16 := by simp
          refine wp_region_lit ?_
          refine ls hk rfl rfl rfl (e_move hk rfl _) fun a hk => ?_
          have hBs := hB.size
          refine la hk rfl (a_call hk rfl rfl (c_fn hk rfl ok76) (c76 seed _) ?_)
          rintro e w ⟨b1, b3, b9, bm, rfl, hN, hE, hgm⟩
          refine ⟨_, rfl, fun a hk => ?_⟩
          have hB := ext_trans hB hE
          have hgm : w0.heap.size ≤ bm := Nat.le_trans hBs hgm
          obtain ⟨C, hC⟩ : ∃ C, C = w.heap.size := ⟨_, rfl⟩
          rw [← hC] at hN
          clear hE
          refine ls hk rfl rfl rfl (e_assign hk rfl _) fun a hk => ?_
          refine lnil (hK9 _ _ ?_)
          refine wp_seq_k fun K10 hK10 => ?_
          refine wp_region_lit ?_
          refine la hk rfl (a_alloc hk rfl zr113 fun a w b11 hk G => ?_)
          have hCb : C ≤ b11 := by rw [hC]; exact G.ge
          have hN := hN.ext G.ext
          have hBl := bld_new (bb := b11) G.at_
          have hg11 : w0.heap.size ≤ b11 := Nat.le_trans hB.size G.ge
          have hB := ext_trans hB G.ext
          clear G hC
          refine lnil (hK10 _ _ ?_)
          refine wp_seq_k fun K11 hK11 => ?_
          refine wp_region_lit ?_
          refine ls hk rfl rfl rfl (e_move hk rfl _) fun a hk => ?_
          have hlt11 := heap_lt hBl.at_
          refine la hk rfl (a_call hk rfl rfl (c_fn hk rfl ok78) (c78 x _ (by omega) (by omega)) ?_)
          rintro e w ⟨ad2, c2, rfl, hown2, hE⟩
          refine ⟨_, rfl, fun a hk => ?_⟩
          have hB := ext_trans hB hE
          have hx2 : ∀ b o, ad2 = some ⟨b, o, none⟩ → b ≠ b11 := fun b o e => by have := (hown2.lt b (by rw [e]; rfl)).1; omega
          obtain ⟨_, _, hv, _, hR2⟩ := Rd.of_own hown2
          cases hv
          have hBl := hBl.ext hE
          have hN := hN.ext hE
          clear hE
          refine la hk rfl (a_call hk rfl rfl (c_fn hk rfl ok77) (c77 none (Value.slice none 0 0) b11 ([]) (encI x) _ _ _ hBl hR2 hx2 (by omega) (by rw [List.length_nil]; omega)) ?_)
          rintro e w ⟨v2, rfl, hBl2, hFm, hloc⟩
          refine ⟨_, rfl, fun a hk => ?_⟩
          have hS5 : ∀ k, k < b11 → ¬ (k = b11 ∨ ((Value.slice none 0 0)).ownBlock = some k) := fun k hk h => by
            rcases h with h | h
            · omega
            · have := (hBl.own.lt k h).1; omega
          have hN := hN.frm hFm (fun k hk => hS5 k (by omega))
          have hB := hFm.below hB hB.size (fun k hk => hS5 k (by omega))
          have hBl2 : Bld (some ⟨b11, 0, none⟩) v2 b11 (encI x ++ ((List.range (0)).map (sigV seed x (digestS (nodeAt seed ht 0) x m))).flatten) w := by simpa using hBl2
          have hBl := hBl2
          clear hBl2 hFm hloc hS5
          refine lnil (hK11 _ _ ?_)
          refine wp_seq_k fun K12 hK12 => ?_
          refine wp_seq_k fun K13 hK13 => ?_
          refine wp_region_lit ?_
          refine ls hk rfl rfl rfl (e_move hk rfl _) fun a hk => ?_
          refine ls hk rfl rfl rfl (e_move hk rfl _) fun a hk => ?_
          refine la hk rfl (a_call hk rfl rfl (c_val (f := 122) (first := []) (captured := [.pointer (some ⟨b3, 0, none⟩), .pointer (some ⟨b1, 0, none⟩), .pointer (some ⟨b9, 0, none⟩)]) hk rfl rfl ok122) (node_at seed (by omega) b1 b3 b9 bm C ht 0 _ (by omega) (by omega) (by omega) hN (hG.ext hB)) ?_)
          rintro e w ⟨rfl, hN1, hF⟩
          refine ⟨_, rfl, fun a hk => ?_⟩
          have hBl := hBl.frm hF (fun k hk e => by have := hN.lt; omega)
          have hB := hF.below hB hB.size (fun k hk e => by omega)
          have hN := hN1
          clear hN1 hF
          refine ls hk rfl rfl rfl (e_move hk rfl _) fun a hk => ?_
          refine ls hk rfl rfl rfl (e_move hk rfl _) fun a hk => ?_
          refine la hk rfl (a_call hk rfl rfl (c_fn hk rfl ok63) (c63 (nodeAt seed ht 0) x m _ (hG.ext hB) (by simp) (is64_n (by omega)) hm) ?_)
          rintro e w ⟨rfl, hE⟩
          refine ⟨_, rfl, fun a hk => ?_⟩
          have hB := ext_trans hB hE
          have hBl := hBl.ext hE
          have hN := hN.ext hE
          clear hE
          refine la hk rfl (a_call hk rfl rfl (c_fn hk rfl ok34) (c34 (digestS (nodeAt seed ht 0) x m) hd16 _) ?_)
          rintro e w ⟨⟨bd, rfl, hgd, h_bd⟩, hE⟩
          refine ⟨_, rfl, fun a hk => ?_⟩
          have hB := ext_trans hB hE
          have nd : bd ≠ b11 := by have := heap_lt hBl.at_; omega
          have kd : v2.ownBlock ≠ some bd := fun e => by have := (hBl.own.lt bd e).2; omega
          have hBl := hBl.ext hE
          have hN := hN.ext hE
          clear hE
          refine ls hk rfl rfl rfl (e_lenS hk rfl Tryd.underlying45 _) fun a hk => ?_
          refine ls hk rfl rfl rfl (e_move hk rfl _) fun a hk => ?_
          refine lnil (hK13 _ _ ?_)
          refine wp_block ?_
          refine loopN (fun n a w => ∃ j : Nat, ∃ (p : Option Addr) (v : Value), n = 68 - j ∧ j ≤ 68 ∧ Kn a 83 [(0, Str seed), (1, I (ht : Nat)), (2, I (x : Nat)), (10, atV b1 b3 b9), (11, .pointer (some ⟨b11, 0, none⟩)), (50, .slice (some ⟨bd, 0, none⟩) 68 68), (51, I (68 : Nat)), (52, I j)] ∧ (Ext w0 w) ∧ (NJ seed b1 b3 b9 bm C w) ∧ (Bld p v b11 (encI x ++ ((List.range (j)).map (sigV seed x (digestS (nodeAt seed ht 0) x m))).flatten) w) ∧ (w.heap[bd]? = some (.cells ((digI (digestS (nodeAt seed ht 0) x m)).map I).toArray 105 (0, 0))) ∧ (v.ownBlock ≠ some bd)) (68 - 0) ?_ fun n a w hI => ?_
          · exact ⟨0, _, v2, rfl, by omega, hk.sub _ ⟨rfl, rfl, rfl, rfl, rfl, rfl, rfl, rfl, trivial⟩, hB, hN, hBl, h_bd, kd⟩
          clear hk hB
          obtain ⟨j, p, v, rfl, hi_le, hk, hB, hN, hBl, h_bd, kd⟩ := hI
          refine wp_seq_k fun K14 hK14 => ?_
          refine wp_region_lit ?_
          refine ls hk rfl rfl rfl (e_lss hk rfl rfl rfl _) fun a hk => ?_
          refine lnil (hK14 _ _ ?_)
          refine wp_seq_k fun K15 hK15 => ?_
          refine cdB hk rfl (fun hb => ?_) (fun hb => ?_)
          · have hj68 : j < 68 := by have := of_decide_eq_true hb; omega
            have h16 := length_sigV seed x (digestS (nodeAt seed ht 0) x m) j
            have hdl := dig_lt (digestS (nodeAt seed ht 0) x m) j
            have hfl := flatF_len (sigV seed x (digestS (nodeAt seed ht 0) x m)) (fun c => length_sigV seed x (digestS (nodeAt seed ht 0) x m) c) j
            have hbl : (encI x ++ ((List.range (j)).map (sigV seed x (digestS (nodeAt seed ht 0) x m))).flatten).length = (encI x).length + 16 * j := by rw [List.length_append, hfl]
            refine wp_skip (hK15 _ _ ?_)
            refine wp_seq_k fun K16 hK16 => ?_
            refine wp_block ?_
            refine wp_seq_k fun K17 hK17 => ?_
            refine wp_region_lit ?_
            refine ls hk rfl rfl rfl (e_move hk rfl _) fun a hk => ?_
            refine ls hk rfl rfl rfl (e_idxS1 j hk rfl rfl Tryd.underlying45 sz3 rfl hj68 _) fun a hk => ?_
            refine ls hk rfl rfl rfl (r_load (v := I ((dig (digestS (nodeAt seed ht 0) x m) j : Nat) : Int)) hk rfl Tryd.underlying3 rfl h_bd (digI_arr _ j hj68)) fun a hk => ?_
            refine ls hk rfl rfl rfl (e_assign hk rfl _) fun a hk => ?_
            refine ls hk rfl rfl rfl (e_assign hk rfl _) fun a hk => ?_
            refine lnil (hK17 _ _ ?_)
            refine wp_seq_k fun K18 hK18 => ?_
            refine wp_region_lit ?_
            refine ls hk rfl rfl rfl (e_move hk rfl _) fun a hk => ?_
            refine ls hk rfl rfl rfl (e_move hk rfl _) fun a hk => ?_
            refine ls hk rfl rfl rfl (e_move hk rfl _) fun a hk => ?_
            refine ls hk rfl rfl rfl (e_move hk rfl _) fun a hk => ?_
            refine ls hk rfl rfl rfl (e_move hk rfl _) fun a hk => ?_
            refine ls hk rfl rfl rfl (e_move hk rfl _) fun a hk => ?_
            refine la hk rfl (a_call hk rfl rfl (c_fn hk rfl ok80) (c80 seed x j (is64_n (by omega)) (is64_n (by omega)) (by omega) _ (hG.ext hB)) ?_)
            rintro e w ⟨rfl, hE⟩
            refine ⟨_, rfl, fun a hk => ?_⟩
            have h_bd := ext_at hE h_bd
            have hB := ext_trans hB hE
            have hBl := hBl.ext hE
            have hN := hN.ext hE
            clear hE
            refine la hk rfl (a_call hk rfl rfl (c_fn hk rfl ok79) (c79 x j (is64_n (by omega)) (is64_n (by omega)) 0 (dig (digestS (nodeAt seed ht 0) x m) j) (by decide) (by omega) _ (length_startS seed x j) _ (hG.ext hB)) ?_)
            rintro e w ⟨rfl, hE⟩
            refine ⟨_, rfl, fun a hk => ?_⟩
            have h_bd := ext_at hE h_bd
            have hB := ext_trans hB hE
            have hBl := hBl.ext hE
            have hN := hN.ext hE
            clear hE
            refine la hk rfl (a_alloc hk rfl zr44 fun a w1 b14 hk G5 => ?_)
            refine la hk rfl (a_st44 (l := (sigV seed x (digestS (nodeAt seed ht 0) x m)) j) hk rfl rfl h16 G5.at_ rfl fun a w hk W5 => ?_)
            have n5 : b14 ≠ b11 := Ne.symm (G5.ne hBl.at_)
            have hlt5 := heap_lt hBl.at_
            have hge5 := G5.ge
            have hBl := hBl.gw G5 W5
            have h_bd := W5.keep (G5.ne h_bd) (ext_at G5.ext h_bd)
            have hN := (hN.ext G5.ext).frm (Frm.wrote (S := fun k => k = b14) W5 rfl) (fun k hk e => by omega)
            have hB := W5.below (ext_trans hB G5.ext) (Nat.le_trans hB.size G5.ge)
            have hR5 : Rd w (some ⟨b14, 0, none⟩) ((sigV seed x (digestS (nodeAt seed ht 0) x m)) j).length 16 1 (((sigV seed x (digestS (nodeAt seed ht 0) x m)) j).map B) := by rw [h16]; exact rd_dig W5.at_ h16
            clear G5 W5
            refine lnil (hK18 _ _ ?_)
            refine wp_region_lit ?_
            refine ls hk rfl rfl rfl (e_slA hk rfl Tryd.underlying44 sz5 _) fun a hk => ?_
            have hk := hk.lift 65 (v := .slice (some ⟨b14, 0, none⟩) ((sigV seed x (digestS (nodeAt seed ht 0) x m)) j).length 16) (by rw [h16]; rfl)
            refine la hk rfl (a_call hk rfl rfl (c_fn hk rfl ok77) (c77 p v b11 (encI x ++ ((List.range (j)).map (sigV seed x (digestS (nodeAt seed ht 0) x m))).flatten) ((sigV seed x (digestS (nodeAt seed ht 0) x m)) j) _ _ _ hBl hR5 (fun b o e => by cases e; exact n5) (by omega) (by omega)) ?_)
            rintro e w ⟨v2, rfl, hBl2, hFm, hloc⟩
            refine ⟨_, rfl, fun a hk => ?_⟩
            have hS5 : ∀ k, k < b11 → ¬ (k = b11 ∨ (v).ownBlock = some k) := fun k hk h => by
              rcases h with h | h
              · omega
              · have := (hBl.own.lt k h).1; omega
            have h_bdo := h_bd
            have h_bd := hFm.at_ (by rintro (h | h); exact nd h; exact kd h) h_bd
            have kd : v2.ownBlock ≠ some bd := fun e => (hloc bd e).elim kd (fun h => absurd (heap_lt h_bdo) (Nat.not_lt.2 h))
            clear h_bdo
            have hN := hN.frm hFm (fun k hk => hS5 k (by omega))
            have hB := hFm.below hB hB.size (fun k hk => hS5 k (by omega))
            rw [List.append_assoc, flatF_succ (sigV seed x (digestS (nodeAt seed ht 0) x m)) j] at hBl2
            have hBl := hBl2
            clear hBl2 hFm hloc hS5
            refine lnil (hK16 _ _ ?_)
            refine wp_region_lit ?_
            refine ls hk rfl rfl rfl (e_add (q := ((j + 1 : Nat) : Int)) hk rfl rfl (by rw [i64 (by omega) (by omega)]; omega) _) fun a hk => ?_
            refine ls hk rfl rfl rfl (e_move hk rfl _) fun a hk => ?_
            refine lnil (show ∃ m : Nat, m < _ ∧ _ from ⟨68 - (j + 1), by omega, j + 1, _, _, rfl, by omega, hk.sub _ ⟨rfl, rfl, rfl, rfl, rfl, rfl, rfl, rfl, trivial⟩, hB, hN, hBl, h_bd, kd⟩)
          · have hj68 : j = 68 := by have := of_decide_eq_false hb; omega
            subst hj68
            clear h_bd kd
            have hfl := flatF_len (sigV seed x (digestS (nodeAt seed ht 0) x m)) (fun c => length_sigV seed x (digestS (nodeAt seed ht 0) x m) c) 68
            refine wp_exit (hK12 _ _ ?_)
            refine wp_seq_k fun K19 hK19 => ?_
            refine wp_seq_k fun K20 hK20 => ?_
            refine wp_region_lit ?_
            refine ls hk rfl rfl rfl (e_move hk rfl _) fun a hk => ?_
            refine ls hk rfl rfl rfl (e_move hk rfl _) fun a hk => ?_
            refine lnil (hK20 _ _ ?_)
            refine wp_block ?_
            refine loopN (fun n a w => ∃ l : Nat, ∃ (p : Option Addr) (v : Value), n = ht - l ∧ l ≤ ht ∧ Kn a 83 [(2, I (x : Nat)), (10, atV b1 b3 b9), (11, .pointer (some ⟨b11, 0, none⟩)), (68, I (ht : Nat)), (69, I l)] ∧ (Ext w0 w) ∧ (NJ seed b1 b3 b9 bm C w) ∧ (Bld p v b11 ((encI x ++ ((List.range (68)).map (sigV seed x (digestS (nodeAt seed ht 0) x m))).flatten) ++ ((List.range (l)).map (fun l => nodeAt seed l (sib (x / 2 ^ l)))).flatten) w)) (ht - 0) ?_ fun n a w hI => ?_
            · have hBl : Bld p v b11 ((encI x ++ ((List.range (68)).map (sigV seed x (digestS (nodeAt seed ht 0) x m))).flatten) ++ ((List.range (0)).map (fun l => nodeAt seed l (sib (x / 2 ^ l)))).flatten) w := by simpa using hBl
              exact ⟨0, _, v, rfl, by omega, hk.sub _ ⟨rfl, rfl, rfl, rfl, rfl, trivial⟩, hB, hN, hBl⟩
            clear hk hB hN hBl
            obtain ⟨l, p, v, rfl, hi_le, hk, hB, hN, hBl⟩ := hI
            refine wp_seq_k fun K21 hK21 => ?_
            refine wp_region_lit ?_
            refine ls hk rfl rfl rfl (e_lss hk rfl rfl rfl _) fun a hk => ?_
            refine lnil (hK21 _ _ ?_)
            refine wp_seq_k fun K22 hK22 => ?_
            refine cdB hk rfl (fun hb => ?_) (fun hb => ?_)
            · have hln : l < ht := by have := of_decide_eq_true hb; omega
              have hp16 : ((fun l => nodeAt seed l (sib (x / 2 ^ l))) l).length = 16 := length_nodeAt _ _ _
              have hpl := flatF_len (fun l => nodeAt seed l (sib (x / 2 ^ l))) (fun c => length_nodeAt _ _ _) l
              have hbl2 : ((encI x ++ ((List.range (68)).map (sigV seed x (digestS (nodeAt seed ht 0) x m))).flatten) ++ ((List.range (l)).map (fun l => nodeAt seed l (sib (x / 2 ^ l)))).flatten).length = (encI x).length + 16 * 68 + 16 * l := by rw [List.length_append, List.length_append, hfl, hpl]
              have hxd : x / 2 ^ l ≤ x := Nat.div_le_self _ _
              have hsb := sib_bound x l hx64 (by omega)
              refine wp_skip (hK22 _ _ ?_)
              refine wp_seq_k fun K23 hK23 => ?_
              refine wp_block ?_
              refine wp_seq_k fun K24 hK24 => ?_
              refine wp_region_lit ?_
              refine ls hk rfl rfl rfl (e_move hk rfl _) fun a hk => ?_
              refine ls hk rfl rfl rfl (e_assign hk rfl _) fun a hk => ?_
              refine lnil (hK24 _ _ ?_)
              refine wp_seq_k fun K25 hK25 => ?_
              refine wp_region_lit ?_
              refine ls hk rfl rfl rfl (e_move hk rfl _) fun a hk => ?_
              refine ls hk rfl rfl rfl (e_move hk rfl _) fun a hk => ?_
              refine ls hk rfl rfl rfl (e_move hk rfl _) fun a hk => ?_
              refine ls hk rfl rfl rfl (e_move hk rfl _) fun a hk => ?_
              refine ls hk rfl rfl rfl (e_shr (q := ((x / 2 ^ l : Nat) : Int)) hk rfl rfl (by omega) (i_shrN x l (by omega)) _) fun a hk => ?_
              refine ls hk rfl rfl rfl (e_xor (q := ((sib (x / 2 ^ l) : Nat) : Int)) hk rfl rfl (xor_sib _ (by omega)) _) fun a hk => ?_
              refine la hk rfl (a_call hk rfl rfl (c_val (f := 122) (first := []) (captured := [.pointer (some ⟨b3, 0, none⟩), .pointer (some ⟨b1, 0, none⟩), .pointer (some ⟨b9, 0, none⟩)]) hk rfl rfl ok122) (node_at seed (by omega) b1 b3 b9 bm C l (sib (x / 2 ^ l)) _ (by omega) (by omega) hsb hN (hG.ext hB)) ?_)
              rintro e w ⟨rfl, hN1, hF⟩
              refine ⟨_, rfl, fun a hk => ?_⟩
              have hBl := hBl.frm hF (fun k hk e => by have := hN.lt; omega)
              have hB := hF.below hB hB.size (fun k hk e => by omega)
              have hN := hN1
              clear hN1 hF
              refine la hk rfl (a_alloc hk rfl zr44 fun a w1 b16 hk G5 => ?_)
              refine la hk rfl (a_st44 (l := (fun l => nodeAt seed l (sib (x / 2 ^ l))) l) hk rfl rfl hp16 G5.at_ rfl fun a w hk W5 => ?_)
              have n5 : b16 ≠ b11 := Ne.symm (G5.ne hBl.at_)
              have hlt5 := heap_lt hBl.at_
              have hge5 := G5.ge
              have hBl := hBl.gw G5 W5
              have hN := (hN.ext G5.ext).frm (Frm.wrote (S := fun k => k = b16) W5 rfl) (fun k hk e => by omega)
              have hB := W5.below (ext_trans hB G5.ext) (Nat.le_trans hB.size G5.ge)
              have hR5 : Rd w (some ⟨b16, 0, none⟩) ((fun l => nodeAt seed l (sib (x / 2 ^ l))) l).length 16 1 (((fun l => nodeAt seed l (sib (x / 2 ^ l))) l).map B) := by rw [hp16]; exact rd_dig W5.at_ hp16
              clear G5 W5
              refine lnil (hK25 _ _ ?_)
              refine wp_region_lit ?_
              refine ls hk rfl rfl rfl (e_slA hk rfl Tryd.underlying44 sz5 _) fun a hk => ?_
              have hk := hk.lift 79 (v := .slice (some ⟨b16, 0, none⟩) ((fun l => nodeAt seed l (sib (x / 2 ^ l))) l).length 16) (by rw [hp16]; rfl)
              refine la hk rfl (a_call hk rfl rfl (c_fn hk rfl ok77) (c77 p v b11 ((encI x ++ ((List.range (68)).map (sigV seed x (digestS (nodeAt seed ht 0) x m))).flatten) ++ ((List.range (l)).map (fun l => nodeAt seed l (sib (x / 2 ^ l)))).flatten) ((fun l => nodeAt seed l (sib (x / 2 ^ l))) l) _ _ _ hBl hR5 (fun b o e => by cases e; exact n5) (by omega) (by omega)) ?_)
              rintro e w ⟨v2, rfl, hBl2, hFm, hloc⟩
              refine ⟨_, rfl, fun a hk => ?_⟩
              have hS5 : ∀ k, k < b11 → ¬ (k = b11 ∨ (v).ownBlock = some k) := fun k hk h => by
                rcases h with h | h
                · omega
                · have := (hBl.own.lt k h).1; omega
              have hN := hN.frm hFm (fun k hk => hS5 k (by omega))
              have hB := hFm.below hB hB.size (fun k hk => hS5 k (by omega))
              rw [List.append_assoc, flatF_succ (fun l => nodeAt seed l (sib (x / 2 ^ l))) l] at hBl2
              have hBl := hBl2
              clear hBl2 hFm hloc hS5
              refine lnil (hK23 _ _ ?_)
              refine wp_region_lit ?_
              refine ls hk rfl rfl rfl (e_add (q := ((l + 1 : Nat) : Int)) hk rfl rfl (by rw [i64 (by omega) (by omega)]; omega) _) fun a hk => ?_
              refine ls hk rfl rfl rfl (e_move hk rfl _) fun a hk => ?_
              refine lnil (show ∃ m : Nat, m < _ ∧ _ from ⟨ht - (l + 1), by omega, l + 1, _, _, rfl, by omega, hk.sub _ ⟨rfl, rfl, rfl, rfl, rfl, trivial⟩, hB, hN, hBl⟩)
            · have hln : ht = l := by have := of_decide_eq_false hb; omega
              subst hln
              have hpl := flatF_len (fun l => nodeAt seed l (sib (x / 2 ^ l))) (fun c => length_nodeAt _ _ _) ht
              have hbl2 : ((encI x ++ ((List.range (68)).map (sigV seed x (digestS (nodeAt seed ht 0) x m))).flatten) ++ ((List.range (ht)).map (fun l => nodeAt seed l (sib (x / 2 ^ l)))).flatten).length = (encI x).length + 16 * 68 + 16 * ht := by rw [List.length_append, List.length_append, hfl, hpl]
              refine wp_exit (hK19 _ _ ?_)
              refine wp_seq_k fun K26 hK26 => ?_
              refine wp_region_lit ?_
              refine la hk rfl (a_call hk rfl rfl (c_fn hk rfl ok81) (c81 p v b11 ((encI x ++ ((List.range (68)).map (sigV seed x (digestS (nodeAt seed ht 0) x m))).flatten) ++ ((List.range (ht)).map (fun l => nodeAt seed l (sib (x / 2 ^ l)))).flatten) _ hBl (by omega)) ?_)
              rintro e w ⟨rfl, hFm⟩
              refine ⟨_, rfl, fun a hk => ?_⟩
              have hB := hFm.below hB hB.size (fun k hk h => by have := (hBl.own.lt k h).1; omega)
              refine ls hk rfl rfl rfl (e_assign hk rfl _) fun a hk => ?_
              refine ls hk rfl rfl rfl (e_assign hk rfl _) fun a hk => ?_
              refine lnil (hK26 _ _ ?_)
              refine wp_ret ?_
              exact ret2 hk rfl rfl rfl ⟨by rw [show sigR seed (ht : Int) (x : Int) m = (signS seed ht x m, 0) by unfold sigR; rw [if_neg (by omega), if_neg (by rw [Int.toNat_natCast]; omega), if_neg (by omega)]; rfl, signS, sigVs, sigP, ← List.append_assoc], hB⟩
  · refine wp_region_lit ?_
    refine ls hk rfl rfl rfl (e_move hk rfl _) fun a hk => ?_
    refine ls hk rfl rfl rfl (e_lenStr hk rfl Tryd.underlying9 _) fun a hk => ?_
    refine ls hk rfl rfl rfl (e_neq (b := true) hk rfl rfl (by simp; omega) _) fun a hk => ?_
    refine ls hk rfl rfl rfl (e_move hk rfl _) fun a hk => ?_
    refine lno hk rfl rfl rfl fun a hk => ?_
    refine lno hk rfl rfl rfl fun a hk => ?_
    refine lno hk rfl rfl rfl fun a hk => ?_
    refine ls hk rfl rfl rfl (e_pickT hk rfl rfl _) fun a hk => ?_
    refine ls hk rfl rfl rfl (e_assign hk rfl _) fun a hk => ?_
    refine lnil (hK3 _ _ ?_)
    refine cdT hk rfl ?_
    refine wp_seq_k fun K27 hK27 => ?_
    refine wp_region_lit ?_
    refine ls hk rfl rfl rfl (e_assign hk rfl _) fun a hk => ?_
    refine ls hk rfl rfl rfl (e_assign hk rfl _) fun a hk => ?_
    refine lnil (hK27 _ _ ?_)
    refine wp_ret ?_
    simp only [blk_ret, then_ret]
    exact ret2 hk rfl rfl rfl ⟨by rw [show sigR seed h i m = ([], 1) by unfold sigR; rw [if_pos (by omega)]], hB⟩

end Go.Proofs.YtidfbboalbchiaaDoor

namespace Go.Proofs.YtidfbboalbchiaaDoor
open Go Go.RowKit

theorem getI_ok_len {s : List UInt8} {ix : Int} {nn : Nat} (h : getI s = (ix, nn, 0)) : nn ≤ s.length := by
  cases s with
  | nil => rw [getI_nil] at h; cases h
  | cons b r =>
    by_cases h1 : kB b > 8
    · rw [getI_big h1] at h; cases h
    · by_cases h2 : r.length < kB b
      · rw [getI_more h1 h2] at h; cases h
      · by_cases h3 : 0 < kB b ∧ r.getD 0 0 ^^^ flB b = 0
        · rw [getI_zero h1 h2 h3] at h; cases h
        · by_cases h4 : 9223372036854775808 ≤ vR b r (kB b)
          · rw [getI_wide h1 h2 h4] at h; cases h
          · rw [getI_ok h1 h2 h3 h4] at h
            cases h
            rw [List.length_cons]; omega
theorem getI_64 (s : List UInt8) : is64 (getI s).1 ∧ 0 ≤ (getI s).2.2 ∧ (getI s).2.2 ≤ 3 := by
  cases s with
  | nil => exact ⟨⟨by decide, by decide⟩, by decide, by decide⟩
  | cons b r =>
    by_cases h1 : kB b > 8
    · rw [getI_big h1]; exact ⟨⟨by decide, by decide⟩, by decide, by decide⟩
    · by_cases h2 : r.length < kB b
      · rw [getI_more h1 h2]; exact ⟨⟨by decide, by decide⟩, by decide, by decide⟩
      · by_cases h3 : 0 < kB b ∧ r.getD 0 0 ^^^ flB b = 0
        · rw [getI_zero h1 h2 h3]; exact ⟨⟨by decide, by decide⟩, by decide, by decide⟩
        · by_cases h4 : 9223372036854775808 ≤ vR b r (kB b)
          · rw [getI_wide h1 h2 h4]; exact ⟨⟨by decide, by decide⟩, by decide, by decide⟩
          · rw [getI_ok h1 h2 h3 h4]
            exact ⟨gI_64 h4, Int.le_refl 0, show (0 : Int) ≤ 3 by decide⟩
section
variable {p m s : List UInt8} {n : Nat} {ix er : Int} {nn : Nat}
theorem verR_bad {h : Int} (hb : ¬ (0 ≤ h ∧ h ≤ 6)) : verR p h m s = (0, 1) := by unfold verR; rw [if_pos (by omega)]
theorem verR_get (hn : n ≤ 6) (hm : m.length ≤ 1000000) (hg : getI s = (ix, nn, er)) (he : er ≠ 0) : verR p n m s = (0, er) := by
  unfold verR
  rw [if_neg (by omega), if_neg (by omega), hg]
  exact if_pos he
theorem verR_form (hn : n ≤ 6) (hm : m.length ≤ 1000000) (hg : getI s = (ix, nn, 0)) (hc : ix < 0 ∨ ix ≥ ((2 ^ n : Nat) : Int) ∨ (s.drop nn).length ≠ (68 + n) * 16) : verR p n m s = (0, 2) := by
  unfold verR
  rw [if_neg (by omega), if_neg (by omega), hg]
  simp only [ne_eq, not_true, if_false]
  rw [if_pos (by rw [Int.toNat_natCast]; exact hc)]
theorem verR_end {x : Nat} (hn : n ≤ 6) (hm : m.length ≤ 1000000) (hg : getI s = ((x : Int), nn, 0)) (hx : ¬ (x : Int) ≥ ((2 ^ n : Nat) : Int)) (hl : (s.drop nn).length = (68 + n) * 16) : verR p n m s = if rootV p n x m (s.drop nn) ≠ p then (0, 10) else ((x : Int), 0) := by
  unfold verR
  rw [if_neg (by omega), if_neg (by omega), hg]
  simp only [ne_eq, not_true, if_false]
  rw [if_neg]
  · simp only [Int.toNat_natCast]
  · rw [Int.toNat_natCast]
    rintro (h | h | h)
    · omega
    · exact hx h
    · exact h hl
end
/-- The values, for whatever number. -/
def verF (d : List UInt8) (x : Nat) (r : List UInt8) (c : Nat) : List UInt8 := if c < 68 then verV d x r c else zD
theorem verF_eq (d : List UInt8) (x : Nat) (r : List UInt8) : leafV (verF d x r) = leafV (verV d x r) := leafV_congr fun c hc => by unfold verF; rw [if_pos hc]
theorem verF_16 (d : List UInt8) (x : Nat) (r : List UInt8) (hr : 68 * 16 ≤ r.length) (c : Nat) : (verF d x r c).length = 16 := by
  unfold verF
  split
  · exact length_adv _ _ _ _ _ (length_chunk r c (by omega))
  · simp [zD]
theorem and_one : ∀ y, y < 64 → IntKind.i64.wrap ((BitVec.ofInt IntKind.i64.bits ((y : Nat) : Int) &&& BitVec.ofInt IntKind.i64.bits 1).toNat : Int) = ((y % 2 : Nat) : Int) := by decide +kernel

set_option maxRecDepth 4000 in
set_option maxHeartbeats 1000000 in
theorem c40 (p : List UInt8) (hp : p.length = 16) (h : Int) (m s : List UInt8) (hm : m.length ≤ 1000000) (hs : s.length ≤ 1000000) (w0 : World) (hG : GH w0) : Calls Tryd.prog 40 #[D p, I h, Str m, Str s] w0 fun e w' => e = .returned (.tuple #[I (verR p h m s).1, I (verR p h m s).2]) ∧ Ext w0 w' := by
  refine start 90 Tryd.func40 rfl rfl rfl fun a hk => ?_
  have hB : Ext w0 w0 := Below.refl _ _
  refine wp_seq_k fun K1 hK1 => ?_
  refine wp_region_lit ?_
  refine la hk rfl (a_box hk rfl rfl fun a w b4 hk G => ?_)
  have hg_b4 : w0.heap.size ≤ b4 := Nat.le_trans hB.size G.ge
  have hB := ext_trans hB G.ext
  have h_b4 := G.at_
  clear G
  refine ls hk rfl rfl rfl (e_assign hk rfl _) fun a hk => ?_
  refine ls hk rfl rfl rfl (e_assign hk rfl _) fun a hk => ?_
  refine lnil (hK1 _ _ ?_)
  refine wp_seq_k fun K2 hK2 => ?_
  refine wp_block ?_
  refine wp_seq_k fun K3 hK3 => ?_
  refine wp_region_lit ?_
  refine ls hk rfl rfl rfl (e_move hk rfl _) fun a hk => ?_
  refine la hk rfl (a_call hk rfl rfl (c_fn hk rfl ok75) (c75 h _) ?_)
  rintro e w ⟨rfl, hE⟩
  refine ⟨_, rfl, fun a hk => ?_⟩
  have h_b4 := ext_at hE h_b4
  have hB := ext_trans hB hE
  clear hE
  refine ls hk rfl rfl rfl (e_not hk rfl _) fun a hk => ?_
  refine ls hk rfl rfl rfl (e_assign hk rfl _) fun a hk => ?_
  refine lnil (hK3 _ _ ?_)
  refine cdB hk rfl (fun hb => ?_) (fun hb => ?_)
  · have hbad : ¬ (0 ≤ h ∧ h ≤ 6) := fun hc => by rw [decide_eq_true hc] at hb; cases hb
    refine wp_seq_k fun K4 hK4 => ?_
    refine wp_region_lit ?_
    refine ls hk rfl rfl rfl (e_assign hk rfl _) fun a hk => ?_
    refine ls hk rfl rfl rfl (e_assign hk rfl _) fun a hk => ?_
    refine lnil (hK4 _ _ ?_)
    refine wp_ret ?_
    simp only [blk_ret, then_ret]
    exact ret2 hk rfl rfl rfl ⟨by rw [verR_bad hbad], hB⟩
  · have hgood : 0 ≤ h ∧ h ≤ 6 := Classical.byContradiction fun hc => by rw [decide_eq_false hc] at hb; cases hb
    obtain ⟨ht, rfl⟩ : ∃ ht : Nat, h = ht := ⟨h.toNat, by omega⟩
    have hp6 : 2 ^ ht ≤ 2 ^ 6 := Nat.pow_le_pow_right (by decide) (by omega)
    have hn6 : ht ≤ 6 := by omega
    obtain ⟨ix, nn, er, hgi⟩ : ∃ ix nn er, getI s = (ix, nn, er) := ⟨_, _, _, rfl⟩
    have hi64 := getI_64 s
    rw [hgi] at hi64
    simp only at hi64
    refine wp_seq_k fun K5 hK5 => ?_
    refine wp_region_lit ?_
    refine ls hk rfl rfl rfl (e_move hk rfl _) fun a hk => ?_
    refine ls hk rfl rfl rfl (e_lenStr hk rfl Tryd.underlying9 _) fun a hk => ?_
    refine ls hk rfl rfl rfl (e_gtr (b := false) hk rfl rfl (decide_eq_false (by omega)) _) fun a hk => ?_
    refine ls hk rfl rfl rfl (e_assign hk rfl _) fun a hk => ?_
    refine lnil (hK5 _ _ ?_)
    refine cdF hk rfl ?_
    refine wp_skip (hK2 _ _ ?_)
    refine wp_seq_k fun K6 hK6 => ?_
    refine wp_region_lit ?_
    refine ls hk rfl rfl rfl (e_move hk rfl _) fun a hk => ?_
    refine la hk rfl (a_bytes hk rfl rfl Tryd.underlying9 Tryd.underlying22 Tryd.underlying5 fun a w b1 c1 hk hgb hE hRb => ?_)
    have h_b4 := ext_at hE h_b4
    have hB := ext_trans hB hE
    clear hE
    refine la hk rfl (a_call hk rfl rfl (c_fn hk rfl ok82) (c82 s (some ⟨b1, 0, none⟩) c1 _ hRb (by omega)) ?_)
    rintro e w ⟨he, hE⟩
    unfold GRes at he
    rw [hgi] at he
    subst he
    refine ⟨_, rfl, fun a hk => ?_⟩
    have h_b4 := ext_at hE h_b4
    have hRb := hRb.ext hE
    have hB := ext_trans hB hE
    clear hE
    refine ls hk rfl rfl rfl (e_move hk rfl _) fun a hk => ?_
    refine ls hk rfl rfl rfl (e_ext hk rfl rfl _) fun a hk => ?_
    refine ls hk rfl rfl rfl (e_ext hk rfl rfl _) fun a hk => ?_
    refine ls hk rfl rfl rfl (e_ext hk rfl rfl _) fun a hk => ?_
    refine la hk rfl (a_alloc hk rfl zr3 fun a w b10 hk G => ?_)
    have n_b4_b10 : b4 ≠ b10 := G.ne h_b4
    have k_hRb_b10 := rd_keep hRb G
    have hg_b10 : w0.heap.size ≤ b10 := Nat.le_trans hB.size G.ge
    have h_b4 := ext_at G.ext h_b4
    have hRb := hRb.ext G.ext
    have hB := ext_trans hB G.ext
    have h_b10 := G.at_
    clear G
    refine la hk rfl (a_st1 hk rfl rfl rfl sz3 h_b10 fun a w hk W => ?_)
    have h_b4 := W.keep n_b4_b10 h_b4
    have hRb := k_hRb_b10 _ _ _ hRb W
    have hB := W.below hB hg_b10
    have h_b10 := W.at_
    clear W
    refine ls hk rfl rfl rfl (e_assign hk rfl _) fun a hk => ?_
    refine ls hk rfl rfl rfl (e_assign hk rfl _) fun a hk => ?_
    refine lnil (hK6 _ _ ?_)
    refine wp_seq_k fun K7 hK7 => ?_
    refine wp_seq_k fun K8 hK8 => ?_
    refine wp_region_lit ?_
    refine ls hk rfl rfl rfl (e_move hk rfl _) fun a hk => ?_
    refine ls hk rfl rfl rfl (e_neq (b := !decide (er = 0)) hk rfl rfl rfl _) fun a hk => ?_
    refine lnil (hK8 _ _ ?_)
    refine cdB hk rfl (fun hb => ?_) (fun hb => ?_)
    · have her : er ≠ 0 := fun h => by rw [h] at hb; cases hb
      refine wp_seq_k fun K9 hK9 => ?_
      refine wp_region_lit ?_
      refine ls hk rfl rfl rfl (e_move hk rfl _) fun a hk => ?_
      refine ls hk rfl rfl rfl (e_assign hk rfl _) fun a hk => ?_
      refine ls hk rfl rfl rfl (e_assign hk rfl _) fun a hk => ?_
      refine lnil (hK9 _ _ ?_)
      refine wp_ret ?_
      simp only [then_ret]
      exact ret2 hk rfl rfl rfl ⟨by rw [verR_get hn6 hm hgi her], hB⟩
    · have her : er = 0 := Classical.byContradiction fun h => by rw [decide_eq_false h] at hb; cases hb
      subst her
      have hnl := getI_ok_len hgi
      refine wp_skip (hK7 _ _ ?_)
      refine wp_seq_k fun K10 hK10 => ?_
      refine wp_region_lit ?_
      refine ls hk rfl rfl rfl (e_move hk rfl _) fun a hk => ?_
      refine ls hk rfl rfl rfl (e_move hk rfl _) fun a hk => ?_
      refine ls hk rfl rfl rfl (e_slStrFromN nn hk rfl rfl Tryd.underlying9 rfl hnl _) fun a hk => ?_
      refine la hk rfl (a_bytes hk rfl rfl Tryd.underlying9 Tryd.underlying22 Tryd.underlying5 fun a w b2 c2 hk hgb2 hE hRr => ?_)
      have h_b4 := ext_at hE h_b4
      have hRb := hRb.ext hE
      have h_b10 := ext_at hE h_b10
      have hB := ext_trans hB hE
      clear hE
      refine la hk rfl (a_alloc hk rfl zr22 fun a w b13 hk G => ?_)
      have n_b4_b13 : b4 ≠ b13 := G.ne h_b4
      have k_hRb_b13 := rd_keep hRb G
      have n_b10_b13 : b10 ≠ b13 := G.ne h_b10
      have k_hRr_b13 := rd_keep hRr G
      have hg_b13 : w0.heap.size ≤ b13 := Nat.le_trans hB.size G.ge
      have h_b4 := ext_at G.ext h_b4
      have hRb := hRb.ext G.ext
      have h_b10 := ext_at G.ext h_b10
      have hRr := hRr.ext G.ext
      have hB := ext_trans hB G.ext
      have h_b13 := G.at_
      clear G
      refine la hk rfl (a_st1 hk rfl rfl rfl sz22 h_b13 fun a w hk W => ?_)
      have h_b4 := W.keep n_b4_b13 h_b4
      have hRb := k_hRb_b13 _ _ _ hRb W
      have h_b10 := W.keep n_b10_b13 h_b10
      have hRr := k_hRr_b13 _ _ _ hRr W
      have hB := W.below hB hg_b13
      have h_b13 := W.at_
      clear W
      refine lnil (hK10 _ _ ?_)
      refine wp_seq_k fun K11 hK11 => ?_
      refine wp_seq_k fun K12 hK12 => ?_
      rcases (by omega : ix < 0 ∨ (0 ≤ ix ∧ ix ≥ ((2 ^ ht : Nat) : Int)) ∨ (0 ≤ ix ∧ ¬ ix ≥ ((2 ^ ht : Nat) : Int))) with hx0 | ⟨hx0, hix⟩ | ⟨hx0, hix⟩
      · have hrl0 : (s.drop nn).length = s.length - nn := by simp
        refine wp_region_ok (fun _ => True) [1, 0, 0, 1, 0, 0, 0, 0, 0, 1, 0, 0, 0, 0, 0, 0] mixed ?_
        have hB := hB.drew
        have h_b4 := ext_at (ext_drew w) h_b4
        have hRb := hRb.ext (ext_drew w)
        have h_b10 := ext_at (ext_drew w) h_b10
        have hRr := hRr.ext (ext_drew w)
        have h_b13 := ext_at (ext_drew w) h_b13
        refine d1 0 hk rfl (by kernel_rfl) rfl rfl rfl rfl (r_ld1 hk rfl Tryd.underlying3 rfl h_b10) fun a hk => ?_
        refine d0 1 hk rfl (by kernel_rfl) rfl rfl rfl rfl (fun _ => e_lss (b := true) hk rfl rfl (decide_eq_true (by omega)) _) fun a hk => ?_
        refine d0 2 hk rfl (by kernel_rfl) rfl rfl rfl rfl (fun _ => e_move hk rfl _) fun a hk => ?_
        refine dno 3 hk rfl (by kernel_rfl) rfl rfl rfl fun a hk => ?_
        refine dno 4 hk rfl (by kernel_rfl) rfl rfl rfl fun a hk => ?_
        refine dno 5 hk rfl (by kernel_rfl) rfl rfl rfl fun a hk => ?_
        refine dno 6 hk rfl (by kernel_rfl) rfl rfl rfl fun a hk => ?_
        refine d0 7 hk rfl (by kernel_rfl) rfl rfl rfl rfl (fun _ => e_pickT hk rfl rfl _) fun a hk => ?_
        refine d0 8 hk rfl (by kernel_rfl) rfl rfl rfl rfl (fun _ => e_move hk rfl _) fun a hk => ?_
        refine dno 9 hk rfl (by kernel_rfl) rfl rfl rfl fun a hk => ?_
        refine dno 10 hk rfl (by kernel_rfl) rfl rfl rfl fun a hk => ?_
        refine dno 11 hk rfl (by kernel_rfl) rfl rfl rfl fun a hk => ?_
        refine dno 12 hk rfl (by kernel_rfl) rfl rfl rfl fun a hk => ?_
        refine dno 13 hk rfl (by kernel_rfl) rfl rfl rfl fun a hk => ?_
        refine dno 14 hk rfl (by kernel_rfl) rfl rfl rfl fun a hk => ?_
        refine d0 15 hk rfl (by kernel_rfl) rfl rfl rfl rfl (fun _ => e_pickT hk rfl rfl _) fun a hk => ?_
        refine okFin (by kernel_rfl) (hK12 _ _ ?_)
        refine cdT hk rfl ?_
        refine wp_seq_k fun K13 hK13 => ?_
        refine wp_region_lit ?_
        refine ls hk rfl rfl rfl (e_assign hk rfl _) fun a hk => ?_
        refine ls hk rfl rfl rfl (e_assign hk rfl _) fun a hk => ?_
        refine lnil (hK13 _ _ ?_)
        refine wp_ret ?_
        simp only [then_ret]
        exact ret2 hk rfl rfl rfl ⟨by rw [verR_form hn6 hm hgi (.inl hx0)], hB⟩
      · have hrl0 : (s.drop nn).length = s.length - nn := by simp
        refine wp_region_ok (fun _ => True) [1, 0, 0, 1, 0, 0, 0, 0, 0, 1, 0, 0, 0, 0, 0, 0] mixed ?_
        have hB := hB.drew
        have h_b4 := ext_at (ext_drew w) h_b4
        have hRb := hRb.ext (ext_drew w)
        have h_b10 := ext_at (ext_drew w) h_b10
        have hRr := hRr.ext (ext_drew w)
        have h_b13 := ext_at (ext_drew w) h_b13
        refine d1 0 hk rfl (by kernel_rfl) rfl rfl rfl rfl (r_ld1 hk rfl Tryd.underlying3 rfl h_b10) fun a hk => ?_
        refine d0 1 hk rfl (by kernel_rfl) rfl rfl rfl rfl (fun _ => e_lss (b := false) hk rfl rfl (decide_eq_false (by omega)) _) fun a hk => ?_
        refine d0 2 hk rfl (by kernel_rfl) rfl rfl rfl rfl (fun _ => e_move hk rfl _) fun a hk => ?_
        refine d1 3 hk rfl (by kernel_rfl) rfl rfl rfl rfl (r_ld1 hk rfl Tryd.underlying3 rfl h_b10) fun a hk => ?_
        refine d0 4 hk rfl (by kernel_rfl) rfl rfl rfl rfl (fun _ => e_move hk rfl _) fun a hk => ?_
        refine d0 5 hk rfl (by kernel_rfl) rfl rfl rfl rfl (fun _ => e_shl (q := ((2 ^ ht : Nat) : Int)) hk rfl rfl (by omega) (by rw [Int.toNat_natCast, Nat.min_eq_left (by show _ ≤ 64; omega), show (1 : Int) * 2 ^ ht = ((2 ^ ht : Nat) : Int) by push_cast; omega]; exact i64 (Int.le_trans (by decide) (Int.natCast_nonneg (2 ^ ht))) (by omega)) _) fun a hk => ?_
        refine d0 6 hk rfl (by kernel_rfl) rfl rfl rfl rfl (fun _ => e_geq (b := true) hk rfl rfl (decide_eq_true hix) _) fun a hk => ?_
        refine d0 7 hk rfl (by kernel_rfl) rfl rfl rfl rfl (fun _ => e_pickF hk rfl rfl _) fun a hk => ?_
        refine d0 8 hk rfl (by kernel_rfl) rfl rfl rfl rfl (fun _ => e_move hk rfl _) fun a hk => ?_
        refine dno 9 hk rfl (by kernel_rfl) rfl rfl rfl fun a hk => ?_
        refine dno 10 hk rfl (by kernel_rfl) rfl rfl rfl fun a hk => ?_
        refine dno 11 hk rfl (by kernel_rfl) rfl rfl rfl fun a hk => ?_
        refine dno 12 hk rfl (by kernel_rfl) rfl rfl rfl fun a hk => ?_
        refine dno 13 hk rfl (by kernel_rfl) rfl rfl rfl fun a hk => ?_
        refine dno 14 hk rfl (by kernel_rfl) rfl rfl rfl fun a hk => ?_
        refine d0 15 hk rfl (by kernel_rfl) rfl rfl rfl rfl (fun _ => e_pickT hk rfl rfl _) fun a hk => ?_
        refine okFin (by kernel_rfl) (hK12 _ _ ?_)
        refine cdT hk rfl ?_
        refine wp_seq_k fun K14 hK14 => ?_
        refine wp_region_lit ?_
        refine ls hk rfl rfl rfl (e_assign hk rfl _) fun a hk => ?_
        refine ls hk rfl rfl rfl (e_assign hk rfl _) fun a hk => ?_
        refine lnil (hK14 _ _ ?_)
        refine wp_ret ?_
        simp only [then_ret]
        exact ret2 hk rfl rfl rfl ⟨by rw [verR_form hn6 hm hgi (.inr (.inl hix))], hB⟩
      · have hrl0 : (s.drop nn).length = s.length - nn := by simp
        refine wp_region_ok (fun _ => True) [1, 0, 0, 1, 0, 0, 0, 0, 0, 1, 0, 0, 0, 0, 0, 0] mixed ?_
        have hB := hB.drew
        have h_b4 := ext_at (ext_drew w) h_b4
        have hRb := hRb.ext (ext_drew w)
        have h_b10 := ext_at (ext_drew w) h_b10
        have hRr := hRr.ext (ext_drew w)
        have h_b13 := ext_at (ext_drew w) h_b13
        refine d1 0 hk rfl (by kernel_rfl) rfl rfl rfl rfl (r_ld1 hk rfl Tryd.underlying3 rfl h_b10) fun a hk => ?_
        refine d0 1 hk rfl (by kernel_rfl) rfl rfl rfl rfl (fun _ => e_lss (b := false) hk rfl rfl (decide_eq_false (by omega)) _) fun a hk => ?_
        refine d0 2 hk rfl (by kernel_rfl) rfl rfl rfl rfl (fun _ => e_move hk rfl _) fun a hk => ?_
        refine d1 3 hk rfl (by kernel_rfl) rfl rfl rfl rfl (r_ld1 hk rfl Tryd.underlying3 rfl h_b10) fun a hk => ?_
        refine d0 4 hk rfl (by kernel_rfl) rfl rfl rfl rfl (fun _ => e_move hk rfl _) fun a hk => ?_
        refine d0 5 hk rfl (by kernel_rfl) rfl rfl rfl rfl (fun _ => e_shl (q := ((2 ^ ht : Nat) : Int)) hk rfl rfl (by omega) (by rw [Int.toNat_natCast, Nat.min_eq_left (by show _ ≤ 64; omega), show (1 : Int) * 2 ^ ht = ((2 ^ ht : Nat) : Int) by push_cast; omega]; exact i64 (Int.le_trans (by decide) (Int.natCast_nonneg (2 ^ ht))) (by omega)) _) fun a hk => ?_
        refine d0 6 hk rfl (by kernel_rfl) rfl rfl rfl rfl (fun _ => e_geq (b := false) hk rfl rfl (decide_eq_false hix) _) fun a hk => ?_
        refine d0 7 hk rfl (by kernel_rfl) rfl rfl rfl rfl (fun _ => e_pickF hk rfl rfl _) fun a hk => ?_
        refine d0 8 hk rfl (by kernel_rfl) rfl rfl rfl rfl (fun _ => e_move hk rfl _) fun a hk => ?_
        refine d1 9 hk rfl (by kernel_rfl) rfl rfl rfl rfl (r_ld1 hk rfl Tryd.underlying22 rfl h_b13) fun a hk => ?_
        refine d0 10 hk rfl (by kernel_rfl) rfl rfl rfl rfl (fun _ => e_lenS hk rfl Tryd.underlying22 _) fun a hk => ?_
        refine d0 11 hk rfl (by kernel_rfl) rfl rfl rfl rfl (fun _ => e_move hk rfl _) fun a hk => ?_
        refine d0 12 hk rfl (by kernel_rfl) rfl rfl rfl rfl (fun _ => e_add (q := ((68 + ht : Nat) : Int)) hk rfl rfl (by rw [i64 (by omega) (by omega)]; omega) _) fun a hk => ?_
        refine d0 13 hk rfl (by kernel_rfl) rfl rfl rfl rfl (fun _ => e_mul (q := (((68 + ht) * 16 : Nat) : Int)) hk rfl rfl (by rw [i64 (by omega) (by omega)]; omega) _) fun a hk => ?_
        refine d0 14 hk rfl (by kernel_rfl) rfl rfl rfl rfl (fun _ => e_neq (b := !decide ((s.drop nn).length = (68 + ht) * 16)) hk rfl rfl (by congr 1; rw [decide_eq_decide]; omega) _) fun a hk => ?_
        refine d0 15 hk rfl (by kernel_rfl) rfl rfl rfl rfl (fun _ => e_pickF hk rfl rfl _) fun a hk => ?_
        refine okFin (by kernel_rfl) (hK12 _ _ ?_)
        refine cdB hk rfl (fun hb => ?_) (fun hb => ?_)
        · have hrl : (s.drop nn).length ≠ (68 + ht) * 16 := fun hc => by rw [decide_eq_true hc] at hb; cases hb
          refine wp_seq_k fun K15 hK15 => ?_
          refine wp_region_lit ?_
          refine ls hk rfl rfl rfl (e_assign hk rfl _) fun a hk => ?_
          refine ls hk rfl rfl rfl (e_assign hk rfl _) fun a hk => ?_
          refine lnil (hK15 _ _ ?_)
          refine wp_ret ?_
          simp only [then_ret]
          exact ret2 hk rfl rfl rfl ⟨by rw [verR_form hn6 hm hgi (.inr (.inr hrl))], hB⟩
        · have hrl : (s.drop nn).length = (68 + ht) * 16 := Classical.byContradiction fun hc => by rw [decide_eq_false hc] at hb; cases hb
          refine wp_skip (hK11 _ _ ?_)
          refine wp_seq_k fun K16 hK16 => ?_
          refine wp_region_lit ?_
          refine ls hk rfl rfl rfl (e_func hk rfl rfl _) fun a hk => ?_
          refine la hk rfl (a_alloc hk rfl zr124 fun a w b14 hk G => ?_)
          have n_b4_b14 : b4 ≠ b14 := G.ne h_b4
          have k_hRb_b14 := rd_keep hRb G
          have n_b10_b14 : b10 ≠ b14 := G.ne h_b10
          have k_hRr_b14 := rd_keep hRr G
          have n_b13_b14 : b13 ≠ b14 := G.ne h_b13
          have hg_b14 : w0.heap.size ≤ b14 := Nat.le_trans hB.size G.ge
          have h_b4 := ext_at G.ext h_b4
          have hRb := hRb.ext G.ext
          have h_b10 := ext_at G.ext h_b10
          have hRr := hRr.ext G.ext
          have h_b13 := ext_at G.ext h_b13
          have hB := ext_trans hB G.ext
          have h_b14 := G.at_
          clear G
          refine la hk rfl (a_st1 hk rfl rfl rfl sz124 h_b14 fun a w hk W => ?_)
          have h_b4 := W.keep n_b4_b14 h_b4
          have hRb := k_hRb_b14 _ _ _ hRb W
          have h_b10 := W.keep n_b10_b14 h_b10
          have hRr := k_hRr_b14 _ _ _ hRr W
          have h_b13 := W.keep n_b13_b14 h_b13
          have hB := W.below hB hg_b14
          have h_b14 := W.at_
          clear W
          refine lnil (hK16 _ _ ?_)
          refine wp_seq_k fun K17 hK17 => ?_
          obtain ⟨x, rfl⟩ : ∃ x : Nat, ix = x := ⟨ix.toNat, by omega⟩
          have hx64 : x < 64 := by omega
          obtain ⟨d, hd⟩ : ∃ d, d = digestS p x m := ⟨_, rfl⟩
          have hd16 : d.length = 16 := by rw [hd]; simp
          obtain ⟨r, hr⟩ : ∃ r, r = s.drop nn := ⟨_, rfl⟩
          rw [← hr] at hRr h_b13 hrl hrl0
          have hroot : rootV p ht x m r = climb r x (leafV (verV d x r)) ht := by unfold rootV; rw [hd]
          refine wp_region_lit ?_
          refine ls hk rfl rfl rfl (r_ld44 hk rfl h_b4 hp) fun a hk => ?_
          refine ls hk rfl rfl rfl (r_ld1 hk rfl Tryd.underlying3 rfl h_b10) fun a hk => ?_
          refine ls hk rfl rfl rfl (e_move hk rfl _) fun a hk => ?_
          refine la hk rfl (a_call hk rfl rfl (c_fn hk rfl ok63) (c63 p x m _ (hG.ext hB) hp (is64_n (by omega)) hm) ?_)
          rintro e w ⟨rfl, hE⟩
          refine ⟨_, rfl, fun a hk => ?_⟩
          have h_b4 := ext_at hE h_b4
          have hRb := hRb.ext hE
          have h_b10 := ext_at hE h_b10
          have hRr := hRr.ext hE
          have h_b13 := ext_at hE h_b13
          have h_b14 := ext_at hE h_b14
          have hB := ext_trans hB hE
          rw [← hd] at hk
          clear hE
          refine la hk rfl (a_call hk rfl rfl (c_fn hk rfl ok34) (c34 d hd16 _) ?_)
          rintro e w ⟨⟨bd, rfl, hgd, h_bd⟩, hE⟩
          refine ⟨_, rfl, fun a hk => ?_⟩
          have h_b4 := ext_at hE h_b4
          have hRb := hRb.ext hE
          have h_b10 := ext_at hE h_b10
          have hRr := hRr.ext hE
          have h_b13 := ext_at hE h_b13
          have h_b14 := ext_at hE h_b14
          have hB := ext_trans hB hE
          clear hE
          refine la hk rfl (a_alloc hk rfl zr45 fun a w b15 hk G => ?_)
          have n_b4_b15 : b4 ≠ b15 := G.ne h_b4
          have k_hRb_b15 := rd_keep hRb G
          have n_b10_b15 : b10 ≠ b15 := G.ne h_b10
          have k_hRr_b15 := rd_keep hRr G
          have n_b13_b15 : b13 ≠ b15 := G.ne h_b13
          have n_b14_b15 : b14 ≠ b15 := G.ne h_b14
          have n_bd_b15 : bd ≠ b15 := G.ne h_bd
          have hg_b15 : w0.heap.size ≤ b15 := Nat.le_trans hB.size G.ge
          have h_b4 := ext_at G.ext h_b4
          have hRb := hRb.ext G.ext
          have h_b10 := ext_at G.ext h_b10
          have hRr := hRr.ext G.ext
          have h_b13 := ext_at G.ext h_b13
          have h_b14 := ext_at G.ext h_b14
          have h_bd := ext_at G.ext h_bd
          have hB := ext_trans hB G.ext
          have h_b15 := G.at_
          clear G
          refine la hk rfl (a_st1 hk rfl rfl rfl sz45 h_b15 fun a w hk W => ?_)
          have h_b4 := W.keep n_b4_b15 h_b4
          have hRb := k_hRb_b15 _ _ _ hRb W
          have h_b10 := W.keep n_b10_b15 h_b10
          have hRr := k_hRr_b15 _ _ _ hRr W
          have h_b13 := W.keep n_b13_b15 h_b13
          have h_b14 := W.keep n_b14_b15 h_b14
          have h_bd := W.keep n_bd_b15 h_bd
          have hB := W.below hB hg_b15
          have h_b15 := W.at_
          clear W
          refine lnil (hK17 _ _ ?_)
          refine wp_seq_k fun K18 hK18 => ?_
          have hRd := ri_dig h_bd
          refine wp_region_lit ?_
          refine ls hk rfl rfl rfl (e_func hk rfl rfl _) fun a hk => ?_
          refine la hk rfl (a_call hk rfl rfl (c_fn hk rfl ok84) (c84 85 ok85 [.pointer (some ⟨b10, 0, none⟩), .pointer (some ⟨b15, 0, none⟩), .pointer (some ⟨b14, 0, none⟩)] (verF d x r) (verF_16 d x r (by omega)) _ (hG.ext hB) (fun q hq w2 hE2 => by
            have h := c85 r d x q hq (by omega) (by omega) (by omega) b13 b10 b15 b14 _ _ _ _ w2 (ext_at hE2 h_b13) (Rd.ext hRr hE2) (ext_at hE2 h_b10) (ext_at hE2 h_b15) (Rd.ext hRd hE2) (ext_at hE2 h_b14) ((hG.ext hB).ext hE2)
            unfold verF
            rw [if_pos hq]
            exact h)) ?_)
          rintro e w ⟨rfl, hE⟩
          refine ⟨_, rfl, fun a hk => ?_⟩
          have h_b4 := ext_at hE h_b4
          have hRb := hRb.ext hE
          have h_b10 := ext_at hE h_b10
          have hRr := hRr.ext hE
          have h_b13 := ext_at hE h_b13
          have h_b14 := ext_at hE h_b14
          have h_bd := ext_at hE h_bd
          have h_b15 := ext_at hE h_b15
          have hB := ext_trans hB hE
          rw [verF_eq] at hk
          clear hE
          refine la hk rfl (a_alloc hk rfl zr44 fun a w b16 hk G => ?_)
          have n_b4_b16 : b4 ≠ b16 := G.ne h_b4
          have k_hRb_b16 := rd_keep hRb G
          have n_b10_b16 : b10 ≠ b16 := G.ne h_b10
          have k_hRr_b16 := rd_keep hRr G
          have n_b13_b16 : b13 ≠ b16 := G.ne h_b13
          have n_b14_b16 : b14 ≠ b16 := G.ne h_b14
          have n_bd_b16 : bd ≠ b16 := G.ne h_bd
          have n_b15_b16 : b15 ≠ b16 := G.ne h_b15
          have hg_b16 : w0.heap.size ≤ b16 := Nat.le_trans hB.size G.ge
          have h_b4 := ext_at G.ext h_b4
          have hRb := hRb.ext G.ext
          have h_b10 := ext_at G.ext h_b10
          have hRr := hRr.ext G.ext
          have h_b13 := ext_at G.ext h_b13
          have h_b14 := ext_at G.ext h_b14
          have h_bd := ext_at G.ext h_bd
          have h_b15 := ext_at G.ext h_b15
          have hB := ext_trans hB G.ext
          have h_b16 := G.at_
          clear G
          refine la hk rfl (a_st44 (l := leafV (verV d x r)) hk rfl rfl (by simp) h_b16 rfl fun a w hk W => ?_)
          have h_b4 := W.keep n_b4_b16 h_b4
          have hRb := k_hRb_b16 _ _ _ hRb W
          have h_b10 := W.keep n_b10_b16 h_b10
          have hRr := k_hRr_b16 _ _ _ hRr W
          have h_b13 := W.keep n_b13_b16 h_b13
          have h_b14 := W.keep n_b14_b16 h_b14
          have h_bd := W.keep n_bd_b16 h_bd
          have h_b15 := W.keep n_b15_b16 h_b15
          have hB := W.below hB hg_b16
          have h_b16 := W.at_
          clear W
          refine lnil (hK18 _ _ ?_)
          refine wp_seq_k fun K19 hK19 => ?_
          refine wp_seq_k fun K20 hK20 => ?_
          refine wp_region_lit ?_
          refine ls hk rfl rfl rfl (e_move hk rfl _) fun a hk => ?_
          refine ls hk rfl rfl rfl (e_move hk rfl _) fun a hk => ?_
          refine lnil (hK20 _ _ ?_)
          refine wp_block ?_
          refine loopN (fun n a w => ∃ l : Nat, n = ht - l ∧ l ≤ ht ∧ Kn a 90 [(1, I (ht : Nat)), (4, .pointer (some ⟨b4, 0, none⟩)), (10, .pointer (some ⟨b10, 0, none⟩)), (14, .pointer (some ⟨b14, 0, none⟩)), (16, .pointer (some ⟨b16, 0, none⟩)), (64, I (ht : Nat)), (65, I l)] ∧ (Ext w0 w) ∧ (w.heap[b4]? = some (.cells (p.map B).toArray 44 (0, 0))) ∧ (w.heap[b10]? = some (.cells #[I (x : Nat)] 3 (0, 0))) ∧ (w.heap[b13]? = some (.cells #[.slice (some ⟨b2, 0, none⟩) r.length c2] 22 (0, 0))) ∧ (Rd w (some ⟨b2, 0, none⟩) r.length c2 1 (r.map B)) ∧ (w.heap[b14]? = some (.cells #[.func (.func 83) #[] #[.pointer (some ⟨b13, 0, none⟩)]] 124 (0, 0))) ∧ (w.heap[b16]? = some (.cells ((climb r x (leafV (verV d x r)) (l)).map B).toArray 44 (0, 0)))) (ht - 0) ?_ fun n a w hI => ?_
          · exact ⟨0, rfl, by omega, hk.sub _ ⟨rfl, rfl, rfl, rfl, rfl, rfl, rfl, trivial⟩, hB, h_b4, h_b10, h_b13, hRr, h_b14, h_b16⟩
          clear hk hB h_b4 h_b10 h_b13 hRr h_b14 h_b16 h_bd hRd h_b15 hRb
          obtain ⟨l, rfl, hi_le, hk, hB, h_b4, h_b10, h_b13, hRr, h_b14, h_b16⟩ := hI
          refine wp_seq_k fun K21 hK21 => ?_
          refine wp_region_lit ?_
          refine ls hk rfl rfl rfl (e_lss hk rfl rfl rfl _) fun a hk => ?_
          refine lnil (hK21 _ _ ?_)
          refine wp_seq_k fun K22 hK22 => ?_
          refine cdB hk rfl (fun hb => ?_) (fun hb => ?_)
          · have hln : l < ht := by have := of_decide_eq_true hb; omega
            have hxd : x / 2 ^ l ≤ x := Nat.div_le_self _ _
            have hcl := length_climb r x (leafV (verV d x r)) (length_leafV _) l
            have hck := length_chunk r (68 + l) (by omega)
            have hcn := length_climb r x (leafV (verV d x r)) (length_leafV _) (l + 1)
            refine wp_skip (hK22 _ _ ?_)
            refine wp_seq_k fun K23 hK23 => ?_
            refine wp_block ?_
            refine wp_seq_k fun K24 hK24 => ?_
            refine wp_region_lit ?_
            refine ls hk rfl rfl rfl (e_move hk rfl _) fun a hk => ?_
            refine ls hk rfl rfl rfl (e_assign hk rfl _) fun a hk => ?_
            refine lnil (hK24 _ _ ?_)
            refine wp_seq_k fun K25 hK25 => ?_
            refine wp_region_lit ?_
            refine ls hk rfl rfl rfl (r_ld1 hk rfl Tryd.underlying3 rfl h_b10) fun a hk => ?_
            refine ls hk rfl rfl rfl (e_move hk rfl _) fun a hk => ?_
            refine ls hk rfl rfl rfl (e_shr (q := ((x / 2 ^ l : Nat) : Int)) hk rfl rfl (by omega) (i_shrN x l (by omega)) _) fun a hk => ?_
            refine ls hk rfl rfl rfl (e_and (q := ((x / 2 ^ l % 2 : Nat) : Int)) hk rfl rfl (and_one _ (by omega)) _) fun a hk => ?_
            refine ls hk rfl rfl rfl (e_eql hk rfl rfl rfl _) fun a hk => ?_
            refine lnil (hK25 _ _ ?_)
            refine cdB hk rfl (fun hb => ?_) (fun hb => ?_)
            · have hodd : x / 2 ^ l % 2 = 1 := by have := of_decide_eq_true hb; omega
              have hce : (climb r x (leafV (verV d x r)) (l + 1)) = nodeS (chunk r (68 + l)) (climb r x (leafV (verV d x r)) (l)) := by
                show (if _ then _ else _) = _
                rw [if_pos hodd]
              refine wp_region_ok (fun w => w.heap[b16]? = some (.cells ((climb r x (leafV (verV d x r)) (l)).map B).toArray 44 (0, 0))) [1, 0, 0, 4, 3, 2, 2] mixed ?_
              have hB := hB.drew
              have h_b4 := ext_at (ext_drew w) h_b4
              have h_b10 := ext_at (ext_drew w) h_b10
              have h_b13 := ext_at (ext_drew w) h_b13
              have hRr := hRr.ext (ext_drew w)
              have h_b14 := ext_at (ext_drew w) h_b14
              have h_b16 := ext_at (ext_drew w) h_b16
              have hS : (fun w => w.heap[b16]? = some (.cells ((climb r x (leafV (verV d x r)) (l)).map B).toArray 44 (0, 0))) w.drew := h_b16
              refine d1 0 hk rfl (by kernel_rfl) rfl rfl rfl rfl (r_ld1 hk rfl Tryd.underlying124 rfl h_b14) fun a hk => ?_
              refine d0 1 hk rfl (by kernel_rfl) rfl rfl rfl rfl (fun _ => e_move hk rfl _) fun a hk => ?_
              refine d0 2 hk rfl (by kernel_rfl) rfl rfl rfl rfl (fun _ => e_add (q := ((68 + l : Nat) : Int)) hk rfl rfl (by rw [i64 (by omega) (by omega)]; omega) _) fun a hk => ?_
              refine da4 3 hk rfl (by kernel_rfl) rfl rfl hS (a_call hk rfl rfl (c_val (f := 83) (first := []) (captured := [.pointer (some ⟨b13, 0, none⟩)]) hk rfl rfl ok83) (c83 r (68 + l) (by omega) (by omega) b13 _ _ _ h_b13 hRr) ?_)
              rintro e w ⟨rfl, hE⟩
              refine ⟨_, rfl, fun a hk => ⟨ext_at hE hS, ?_⟩⟩
              have hS := ext_at hE hS
              have h_b4 := ext_at hE h_b4
              have h_b10 := ext_at hE h_b10
              have h_b13 := ext_at hE h_b13
              have hRr := hRr.ext hE
              have h_b14 := ext_at hE h_b14
              have h_b16 := ext_at hE h_b16
              have hB := ext_trans hB hE
              clear hE
              refine d3 4 hk rfl (by kernel_rfl) rfl rfl rfl rfl hS (fun w hS => r_ld44 hk rfl hS hcl) fun a hk => ?_
              refine da 5 hk rfl (by kernel_rfl) rfl rfl (a_call hk rfl rfl (c_fn hk rfl ok86) (c86 (chunk r (68 + l)) (climb r x (leafV (verV d x r)) (l)) _ (hG.ext hB) hck hcl) ?_)
              rintro e w ⟨rfl, hE⟩
              refine ⟨_, rfl, fun a hk => ?_⟩
              have hS := ext_at hE hS
              have h_b4 := ext_at hE h_b4
              have h_b10 := ext_at hE h_b10
              have h_b13 := ext_at hE h_b13
              have hRr := hRr.ext hE
              have h_b14 := ext_at hE h_b14
              have h_b16 := ext_at hE h_b16
              have hB := ext_trans hB hE
              rw [← hce] at hk
              clear hE
              refine da 6 hk rfl (by kernel_rfl) rfl rfl (a_st44 (l := (climb r x (leafV (verV d x r)) (l + 1))) hk rfl rfl hcn h_b16 (by simp [hcl]) fun a w hk W => ?_)
              have h_b4 := W.keep n_b4_b16 h_b4
              have h_b10 := W.keep n_b10_b16 h_b10
              have h_b13 := W.keep n_b13_b16 h_b13
              have hRr := k_hRr_b16 _ _ _ hRr W
              have h_b14 := W.keep n_b14_b16 h_b14
              have hB := W.below hB hg_b16
              have h_b16 := W.at_
              clear W
              refine okFin (by kernel_rfl) (hK23 _ _ ?_)
              refine wp_region_lit ?_
              refine ls hk rfl rfl rfl (e_add (q := ((l + 1 : Nat) : Int)) hk rfl rfl (by rw [i64 (by omega) (by omega)]; omega) _) fun a hk => ?_
              refine ls hk rfl rfl rfl (e_move hk rfl _) fun a hk => ?_
              refine lnil (show ∃ m : Nat, m < _ ∧ _ from ⟨ht - (l + 1), by omega, l + 1, rfl, by omega, hk.sub _ ⟨rfl, rfl, rfl, rfl, rfl, rfl, rfl, trivial⟩, hB, h_b4, h_b10, h_b13, hRr, h_b14, h_b16⟩)
            · have hodd : ¬ x / 2 ^ l % 2 = 1 := by have := of_decide_eq_false hb; omega
              have hce : (climb r x (leafV (verV d x r)) (l + 1)) = nodeS (climb r x (leafV (verV d x r)) (l)) (chunk r (68 + l)) := by
                show (if _ then _ else _) = _
                rw [if_neg hodd]
              refine wp_region_ok (fun w => w.heap[b16]? = some (.cells ((climb r x (leafV (verV d x r)) (l)).map B).toArray 44 (0, 0))) [3, 1, 0, 0, 4, 2, 2] mixed ?_
              have hB := hB.drew
              have h_b4 := ext_at (ext_drew w) h_b4
              have h_b10 := ext_at (ext_drew w) h_b10
              have h_b13 := ext_at (ext_drew w) h_b13
              have hRr := hRr.ext (ext_drew w)
              have h_b14 := ext_at (ext_drew w) h_b14
              have h_b16 := ext_at (ext_drew w) h_b16
              have hS : (fun w => w.heap[b16]? = some (.cells ((climb r x (leafV (verV d x r)) (l)).map B).toArray 44 (0, 0))) w.drew := h_b16
              refine d3 0 hk rfl (by kernel_rfl) rfl rfl rfl rfl hS (fun w hS => r_ld44 hk rfl hS hcl) fun a hk => ?_
              refine d1 1 hk rfl (by kernel_rfl) rfl rfl rfl rfl (r_ld1 hk rfl Tryd.underlying124 rfl h_b14) fun a hk => ?_
              refine d0 2 hk rfl (by kernel_rfl) rfl rfl rfl rfl (fun _ => e_move hk rfl _) fun a hk => ?_
              refine d0 3 hk rfl (by kernel_rfl) rfl rfl rfl rfl (fun _ => e_add (q := ((68 + l : Nat) : Int)) hk rfl rfl (by rw [i64 (by omega) (by omega)]; omega) _) fun a hk => ?_
              refine da4 4 hk rfl (by kernel_rfl) rfl rfl hS (a_call hk rfl rfl (c_val (f := 83) (first := []) (captured := [.pointer (some ⟨b13, 0, none⟩)]) hk rfl rfl ok83) (c83 r (68 + l) (by omega) (by omega) b13 _ _ _ h_b13 hRr) ?_)
              rintro e w ⟨rfl, hE⟩
              refine ⟨_, rfl, fun a hk => ⟨ext_at hE hS, ?_⟩⟩
              have hS := ext_at hE hS
              have h_b4 := ext_at hE h_b4
              have h_b10 := ext_at hE h_b10
              have h_b13 := ext_at hE h_b13
              have hRr := hRr.ext hE
              have h_b14 := ext_at hE h_b14
              have h_b16 := ext_at hE h_b16
              have hB := ext_trans hB hE
              clear hE
              refine da 5 hk rfl (by kernel_rfl) rfl rfl (a_call hk rfl rfl (c_fn hk rfl ok86) (c86 (climb r x (leafV (verV d x r)) (l)) (chunk r (68 + l)) _ (hG.ext hB) hcl hck) ?_)
              rintro e w ⟨rfl, hE⟩
              refine ⟨_, rfl, fun a hk => ?_⟩
              have hS := ext_at hE hS
              have h_b4 := ext_at hE h_b4
              have h_b10 := ext_at hE h_b10
              have h_b13 := ext_at hE h_b13
              have hRr := hRr.ext hE
              have h_b14 := ext_at hE h_b14
              have h_b16 := ext_at hE h_b16
              have hB := ext_trans hB hE
              rw [← hce] at hk
              clear hE
              refine da 6 hk rfl (by kernel_rfl) rfl rfl (a_st44 (l := (climb r x (leafV (verV d x r)) (l + 1))) hk rfl rfl hcn h_b16 (by simp [hcl]) fun a w hk W => ?_)
              have h_b4 := W.keep n_b4_b16 h_b4
              have h_b10 := W.keep n_b10_b16 h_b10
              have h_b13 := W.keep n_b13_b16 h_b13
              have hRr := k_hRr_b16 _ _ _ hRr W
              have h_b14 := W.keep n_b14_b16 h_b14
              have hB := W.below hB hg_b16
              have h_b16 := W.at_
              clear W
              refine okFin (by kernel_rfl) (hK23 _ _ ?_)
              refine wp_region_lit ?_
              refine ls hk rfl rfl rfl (e_add (q := ((l + 1 : Nat) : Int)) hk rfl rfl (by rw [i64 (by omega) (by omega)]; omega) _) fun a hk => ?_
              refine ls hk rfl rfl rfl (e_move hk rfl _) fun a hk => ?_
              refine lnil (show ∃ m : Nat, m < _ ∧ _ from ⟨ht - (l + 1), by omega, l + 1, rfl, by omega, hk.sub _ ⟨rfl, rfl, rfl, rfl, rfl, rfl, rfl, trivial⟩, hB, h_b4, h_b10, h_b13, hRr, h_b14, h_b16⟩)
          · have hln : ht = l := by have := of_decide_eq_false hb; omega
            subst hln
            have hcl := length_climb r x (leafV (verV d x r)) (length_leafV _) ht
            rw [← hroot] at h_b16 hcl
            refine wp_exit (hK19 _ _ ?_)
            refine wp_seq_k fun K26 hK26 => ?_
            refine wp_seq_k fun K27 hK27 => ?_
            refine wp_region_lit ?_
            refine ls hk rfl rfl rfl (r_ld44 hk rfl h_b16 hcl) fun a hk => ?_
            refine ls hk rfl rfl rfl (r_ld44 hk rfl h_b4 hp) fun a hk => ?_
            refine ls hk rfl rfl rfl (e_neA (l := (rootV p ht x m r)) (r := p) hk rfl rfl Tryd.underlying44 Tryd.underlying5 sz5 hcl hp eg44 rfl _) fun a hk => ?_
            refine lnil (hK27 _ _ ?_)
            refine cdB hk rfl (fun hb => ?_) (fun hb => ?_)
            · have hve := verR_end (p := p) (m := m) hn6 hm hgi hix (by rw [← hr]; exact hrl)
              rw [← hr] at hve
              have hne : (rootV p ht x m r) ≠ p := fun h => by rw [decide_eq_true h] at hb; cases hb
              refine wp_seq_k fun K28 hK28 => ?_
              refine wp_region_lit ?_
              refine ls hk rfl rfl rfl (e_assign hk rfl _) fun a hk => ?_
              refine ls hk rfl rfl rfl (e_assign hk rfl _) fun a hk => ?_
              refine lnil (hK28 _ _ ?_)
              refine wp_ret ?_
              simp only [then_ret]
              exact ret2 hk rfl rfl rfl ⟨by rw [hve, if_pos hne], hB⟩
            · have hve := verR_end (p := p) (m := m) hn6 hm hgi hix (by rw [← hr]; exact hrl)
              rw [← hr] at hve
              have heq : (rootV p ht x m r) = p := Classical.byContradiction fun h => by rw [decide_eq_false h] at hb; cases hb
              refine wp_skip (hK26 _ _ ?_)
              refine wp_seq_k fun K29 hK29 => ?_
              refine wp_region_lit ?_
              refine ls hk rfl rfl rfl (r_ld1 hk rfl Tryd.underlying3 rfl h_b10) fun a hk => ?_
              refine ls hk rfl rfl rfl (e_assign hk rfl _) fun a hk => ?_
              refine ls hk rfl rfl rfl (e_assign hk rfl _) fun a hk => ?_
              refine lnil (hK29 _ _ ?_)
              refine wp_ret ?_
              exact ret2 hk rfl rfl rfl ⟨by rw [hve, if_neg (fun h => h heq)], hB⟩

end Go.Proofs.YtidfbboalbchiaaDoor

namespace Go.Proofs.YtidfbboalbchiaaDoor
open Go Go.RowKit

theorem txt_succ (s : List UInt8) (F : Nat → List UInt8) (i : Nat) : Str ((s ++ ((List.range i).map F).flatten) ++ F i) = Str (s ++ ((List.range (i + 1)).map F).flatten) := by rw [List.append_assoc, flatF_succ]
theorem own_pts {w : World} {base : Nat} {e : TypeId} {sz : Nat} {v : Value} {n : Nat} {xs : List Value} (h : w.ownsRow base e sz v n xs) (hn : 0 < n) : ∃ g cap cur, v = .slice (some ⟨g, 0, none⟩) n cap ∧ base ≤ g ∧ w.heap[g]? = some (.cells cur e (0, 0)) ∧ n ≤ cap ∧ cap ≤ maxLen ∧ cur.size = cap * sz ∧ cur.toList.take (n * sz) = xs := by
  rcases h.2 with ⟨_, h0⟩ | ⟨g, cap, cur, hv, hb, hg, hc, hm, hs, ht⟩
  · omega
  · exact ⟨g, cap, cur, hv, hb, hg, hc, hm, hs, ht⟩
/-- A level of a tree. -/
def lev (seed : List UInt8) (h l : Nat) : List (List UInt8) := (List.range (2 ^ (h - l))).map (nodeAt seed l)
theorem length_lev (seed : List UInt8) (h l : Nat) : (lev seed h l).length = 2 ^ (h - l) := by simp [lev]
def levP (seed : List UInt8) (l n : Nat) : List (List UInt8) := (List.range n).map (nodeAt seed l)
theorem levP_16 (seed : List UInt8) (l n : Nat) : ∀ d ∈ levP seed l n, d.length = 16 := by
  intro d hd
  obtain ⟨k, _, rfl⟩ := List.mem_map.1 hd
  exact length_nodeAt _ _ _
theorem levP_succ (seed : List UInt8) (l n : Nat) : digs16 (levP seed l n) ++ (nodeAt seed l n).map B = digs16 (levP seed l (n + 1)) := by
  unfold levP
  rw [List.range_succ, List.map_append, List.map_cons, List.map_nil, digs16_snoc]
theorem lev_get (seed : List UInt8) (h l k : Nat) (hk : k < 2 ^ (h - l)) : (lev seed h l).getD k [] = nodeAt seed l k := by simp [lev, hk]
theorem lev_16 (seed : List UInt8) (h l : Nat) : ∀ d ∈ lev seed h l, d.length = 16 := levP_16 seed l _
/-- The levels so far: the slices sl, none in the block g. -/
def LvOk (seed : List UInt8) (h g : Nat) (sl : List Value) (w : World) : Prop := ∀ i s, sl[i]? = some s → ∃ b c cur, s = .slice (some ⟨b, 0, none⟩) (2 ^ (h - i)) c ∧ 2 ^ (h - i) ≤ c ∧ w.heap[b]? = some (.cells cur 44 (0, 0)) ∧ cur.toList.take (2 ^ (h - i) * 16) = digs16 (lev seed h i) ∧ b ≠ g
theorem LvOk.ext {seed : List UInt8} {h g : Nat} {sl : List Value} {w w' : World} (hL : LvOk seed h g sl w) (hE : Ext w w') : LvOk seed h g sl w' := fun i s hs => by
  obtain ⟨b, c, cur, h1, h2, h3, h4, h5⟩ := hL i s hs
  exact ⟨b, c, cur, h1, h2, ext_at hE h3, h4, h5⟩
theorem LvOk.rdg {seed : List UInt8} {h g : Nat} {sl : List Value} {w : World} (hL : LvOk seed h g sl w) (i : Nat) (s : Value) (hs : sl[i]? = some s) : ∃ b c, s = .slice (some ⟨b, 0, none⟩) (2 ^ (h - i)) c ∧ Rdg w (some ⟨b, 0, none⟩) (2 ^ (h - i)) c (lev seed h i) := by
  obtain ⟨b, c, cur, h1, h2, h3, h4, h5⟩ := hL i s hs
  refine ⟨b, c, h1, ⟨?_, h2, fun j u hu => ⟨b, 0, rfl, ?_⟩⟩, lev_16 seed h i⟩
  · rw [length_digs16 _ (lev_16 seed h i), length_lev]
  · rw [Nat.zero_add, cell_of_row w b j cur 44 (0, 0) h3]
    rw [← h4, List.getElem?_take] at hu
    split at hu
    · simpa using hu
    · cases hu
/-- One more level. -/
theorem LvOk.push {seed : List UInt8} {h g g' l cap b c : Nat} {sl : List Value} {w w' : World} {v : Value} {cur : Array Value} (hL : LvOk seed h g sl w) (hl : sl.length = l + 1) (hv : v = .slice (some ⟨g, 0, none⟩) (l + 1) cap) (hK : Kept w w' v)
    (hloc : g' = g ∨ w.heap.size ≤ g') (hc : 2 ^ (h - (l + 1)) ≤ c) (hb : w.heap[b]? = some (.cells cur 44 (0, 0))) (ht : cur.toList.take (2 ^ (h - (l + 1)) * 16) = digs16 (lev seed h (l + 1))) (hbg : b ≠ g) :
    LvOk seed h g' (sl ++ [.slice (some ⟨b, 0, none⟩) (2 ^ (h - (l + 1))) c]) w' := fun i s hs => by
  subst hv
  have key : ∀ (b : Nat) (cur : Array Value), b ≠ g → w.heap[b]? = some (.cells cur 44 (0, 0)) → w'.heap[b]? = some (.cells cur 44 (0, 0)) ∧ b ≠ g' := fun b cur hne hb => by
    refine ⟨by rw [hK.block b (heap_lt hb) (fun e => hne (by simpa [Value.ownBlock] using e))]; exact hb, fun e => ?_⟩
    rcases hloc with h1 | h1
    · exact hne (e.trans h1)
    · have := heap_lt hb; omega
  by_cases hi : i < sl.length
  · rw [List.getElem?_append_left hi] at hs
    obtain ⟨b1, c1, cur1, h1, h2, h3, h4, h5⟩ := hL i s hs
    obtain ⟨k1, k2⟩ := key b1 cur1 h5 h3
    exact ⟨b1, c1, cur1, h1, h2, k1, h4, k2⟩
  · rw [List.getElem?_append_right (by omega)] at hs
    have hi2 : i = l + 1 := by
      have := (List.getElem?_eq_some_iff.1 hs).1
      simp at this; omega
    subst hi2
    rw [hl, Nat.sub_self] at hs
    cases hs
    obtain ⟨k1, k2⟩ := key b cur hbg hb
    exact ⟨b, c, cur, rfl, hc, k1, ht, k2⟩

set_option maxRecDepth 4000 in
set_option maxHeartbeats 1000000 in
theorem c131 (seed : List UInt8) (hs : seed.length ≤ 1000000) (x : Nat) (hx : x ≤ 1000000) (w0 : World) (hGR : GR w0) : Calls Tryd.prog 131 #[Str seed, I (x : Nat)] w0 fun e w' => e = .returned (D (nodeAt seed 0 x)) ∧ Ext w0 w' := by
  refine start 29 Tryd.func131 rfl rfl rfl fun a hk => ?_
  have hB : Ext w0 w0 := Below.refl _ _
  refine wp_seq_k fun K1 hK1 => ?_
  refine wp_region_lit ?_
  refine la hk rfl (a_alloc hk rfl zr44 fun a w b4 hk G => ?_)
  have hg_b4 : w0.heap.size ≤ b4 := Nat.le_trans hB.size G.ge
  have hB := ext_trans hB G.ext
  have h_b4 := G.at_
  clear G
  refine lnil (hK1 _ _ ?_)
  refine wp_seq_k fun K2 hK2 => ?_
  obtain ⟨Z4, hZ4, hZs⟩ : ∃ Z : Array Value, (Value.agg (List.replicate 16 (Value.int .u8 0)).toArray).cells = Z ∧ Z.size = 16 := ⟨_, rfl, rfl⟩
  rw [hZ4] at h_b4
  refine wp_region_lit ?_
  refine ls hk rfl rfl rfl (e_assign hk rfl _) fun a hk => ?_
  refine lnil (hK2 _ _ ?_)
  refine wp_seq_k fun K3 hK3 => ?_
  refine wp_seq_k fun K4 hK4 => ?_
  refine wp_region_lit ?_
  refine ls hk rfl rfl rfl (e_assign hk rfl _) fun a hk => ?_
  refine lnil (hK4 _ _ ?_)
  refine wp_block ?_
  refine loopN (fun n a w => ∃ i : Nat, n = 68 - i ∧ i ≤ 68 ∧ Kn a 29 [(0, Str seed), (1, I (x : Nat)), (4, .pointer (some ⟨b4, 0, none⟩)), (5, Str ([] ++ ((List.range (i)).map (fun c : Nat => adv x c 0 3 (startS seed x c))).flatten)), (6, I i)] ∧ (Ext w0 w) ∧ (w.heap[b4]? = some (.cells Z4 44 (0, 0)))) (68 - 0) ?_ fun n a w hI => ?_
  · exact ⟨0, rfl, by omega, hk.sub _ ⟨rfl, rfl, rfl, rfl, rfl, trivial⟩, hB, h_b4⟩
  clear hk hB h_b4
  obtain ⟨i, rfl, hi_le, hk, hB, h_b4⟩ := hI
  refine wp_seq_k fun K5 hK5 => ?_
  refine wp_seq_k fun K6 hK6 => ?_
  refine wp_region_lit ?_
  refine ls hk rfl rfl rfl (e_move hk rfl _) fun a hk => ?_
  refine ls hk rfl rfl rfl (e_lss hk rfl rfl rfl _) fun a hk => ?_
  refine lnil (hK6 _ _ ?_)
  refine cdB hk rfl (fun hb => ?_) (fun hb => ?_)
  · have hi68 : i < 68 := by have := of_decide_eq_true hb; omega
    have hf16 := length_adv x i 0 3 (startS seed x i) (length_startS _ _ _)
    have hfl := flatF_len (fun c : Nat => adv x c 0 3 (startS seed x c)) (fun c => length_adv _ _ _ _ _ (length_startS _ _ _)) i
    have hfl2 : ([] ++ ((List.range (i)).map (fun c : Nat => adv x c 0 3 (startS seed x c))).flatten).length = 16 * i := by rw [List.nil_append]; exact hfl
    refine wp_skip (hK5 _ _ ?_)
    refine wp_seq_k fun K7 hK7 => ?_
    refine wp_block ?_
    refine wp_region_lit ?_
    refine ls hk rfl rfl rfl (e_move hk rfl _) fun a hk => ?_
    refine ls hk rfl rfl rfl (e_move hk rfl _) fun a hk => ?_
    refine ls hk rfl rfl rfl (e_move hk rfl _) fun a hk => ?_
    refine ls hk rfl rfl rfl (e_move hk rfl _) fun a hk => ?_
    refine ls hk rfl rfl rfl (e_move hk rfl _) fun a hk => ?_
    refine ls hk rfl rfl rfl (e_move hk rfl _) fun a hk => ?_
    refine la hk rfl (a_call hk rfl rfl (c_fn hk rfl ok119) (c119 seed x i (is64_n (by omega)) (is64_n (by omega)) hs _ (hGR.ext hB)) ?_)
    rintro e w ⟨rfl, hE⟩
    refine ⟨_, rfl, fun a hk => ?_⟩
    have h_b4 := ext_at hE h_b4
    have hB := ext_trans hB hE
    clear hE
    refine la hk rfl (a_call hk rfl rfl (c_fn hk rfl ok88) (c88 x i (is64_n (by omega)) (is64_n (by omega)) 0 3 (by decide) (by decide) _ (length_startS seed x i) _ (hGR.ext hB)) ?_)
    rintro e w ⟨rfl, hE⟩
    refine ⟨_, rfl, fun a hk => ?_⟩
    have h_b4 := ext_at hE h_b4
    have hB := ext_trans hB hE
    clear hE
    refine la hk rfl (a_call hk rfl rfl (c_fn hk rfl ok66) (c66 _ _ hf16) ?_)
    rintro e w ⟨rfl, hE⟩
    refine ⟨_, rfl, fun a hk => ?_⟩
    have h_b4 := ext_at hE h_b4
    have hB := ext_trans hB hE
    clear hE
    refine ls hk rfl rfl rfl (e_sadd (s := ([] ++ ((List.range (i)).map (fun c : Nat => adv x c 0 3 (startS seed x c))).flatten)) (u := (fun c : Nat => adv x c 0 3 (startS seed x c)) i) hk rfl rfl (by rw [hfl2, show ((fun c : Nat => adv x c 0 3 (startS seed x c)) i).length = 16 from hf16]; omega) _) fun a hk => ?_
    rw [txt_succ] at hk
    refine ls hk rfl rfl rfl (e_assign hk rfl _) fun a hk => ?_
    refine lnil (hK7 _ _ ?_)
    refine wp_region_lit ?_
    refine ls hk rfl rfl rfl (e_move hk rfl _) fun a hk => ?_
    refine ls hk rfl rfl rfl (e_add (q := ((i + 1 : Nat) : Int)) hk rfl rfl (by rw [i64 (by omega) (by omega)]; omega) _) fun a hk => ?_
    refine ls hk rfl rfl rfl (e_assign hk rfl _) fun a hk => ?_
    refine lnil (show ∃ m : Nat, m < _ ∧ _ from ⟨68 - (i + 1), by omega, i + 1, rfl, by omega, hk.sub _ ⟨rfl, rfl, rfl, rfl, rfl, trivial⟩, hB, h_b4⟩)
  · have hi68 : i = 68 := by have := of_decide_eq_false hb; omega
    subst hi68
    have hfl := flatF_len (fun c : Nat => adv x c 0 3 (startS seed x c)) (fun c => length_adv _ _ _ _ _ (length_startS _ _ _)) 68
    rw [List.nil_append] at hk
    refine wp_exit (hK3 _ _ ?_)
    refine wp_seq_k fun K8 hK8 => ?_
    refine wp_region_lit ?_
    refine ls hk rfl rfl rfl (e_move hk rfl _) fun a hk => ?_
    refine la hk rfl (a_lit (cells := #[Str (((List.range 68).map (fun c : Nat => adv x c 0 3 (startS seed x c))).flatten)]) (zv := .string ByteArray.empty) (sz := 1) (by_ := 16) hk rfl rfl Tryd.underlying27 el9 (by decide) (by decide) (lit1s _ rfl _) rfl fun a w bl hk G => ?_)
    have n_b4_bl : b4 ≠ bl := G.ne h_b4
    have hg_bl : w0.heap.size ≤ bl := Nat.le_trans hB.size G.ge
    have h_b4 := ext_at G.ext h_b4
    have hB := ext_trans hB G.ext
    have h_bl := G.at_
    clear G
    refine la hk rfl (a_call hk rfl rfl (c_fn hk rfl ok36) (c36 3 [((List.range 68).map (fun c : Nat => adv x c 0 3 (startS seed x c))).flatten] _ _ _ (rs_lit1 h_bl) (hGR.ext hB) (by simp) (by intro y hy; rw [List.mem_singleton] at hy; subst hy; omega)) ?_)
    rintro e w ⟨rfl, hE⟩
    refine ⟨_, rfl, fun a hk => ?_⟩
    have h_b4 := ext_at hE h_b4
    have h_bl := ext_at hE h_bl
    have hB := ext_trans hB hE
    clear hE
    refine la hk rfl (a_alloc hk rfl zr44 fun a w b7 hk G => ?_)
    have n_b4_b7 : b4 ≠ b7 := G.ne h_b4
    have n_bl_b7 : bl ≠ b7 := G.ne h_bl
    have hg_b7 : w0.heap.size ≤ b7 := Nat.le_trans hB.size G.ge
    have h_b4 := ext_at G.ext h_b4
    have h_bl := ext_at G.ext h_bl
    have hB := ext_trans hB G.ext
    have h_b7 := G.at_
    clear G
    refine la hk rfl (a_st44 (l := ofD 3 [((List.range 68).map (fun c : Nat => adv x c 0 3 (startS seed x c))).flatten]) hk rfl rfl (by simp) h_b7 rfl fun a w hk W => ?_)
    have h_b4 := W.keep n_b4_b7 h_b4
    have h_bl := W.keep n_bl_b7 h_bl
    have hB := W.below hB hg_b7
    have h_b7 := W.at_
    clear W
    refine lnil (hK8 _ _ ?_)
    refine wp_seq_k fun K9 hK9 => ?_
    refine wp_region_lit ?_
    refine ls hk rfl rfl rfl (r_ld44 hk rfl h_b7 (by simp)) fun a hk => ?_
    refine la hk rfl (a_call hk rfl rfl (c_fn hk rfl ok66) (c66 (ofD 3 [((List.range 68).map (fun c : Nat => adv x c 0 3 (startS seed x c))).flatten]) _ (by simp)) ?_)
    rintro e w ⟨rfl, hE⟩
    refine ⟨_, rfl, fun a hk => ?_⟩
    have h_b4 := ext_at hE h_b4
    have h_bl := ext_at hE h_bl
    have h_b7 := ext_at hE h_b7
    have hB := ext_trans hB hE
    clear hE
    refine la hk rfl (a_lit (cells := #[Str (ofD 3 [((List.range 68).map (fun c : Nat => adv x c 0 3 (startS seed x c))).flatten])]) (zv := .string ByteArray.empty) (sz := 1) (by_ := 16) hk rfl rfl Tryd.underlying27 el9 (by decide) (by decide) (lit1s _ rfl _) rfl fun a w bm hk G => ?_)
    have n_b4_bm : b4 ≠ bm := G.ne h_b4
    have n_bl_bm : bl ≠ bm := G.ne h_bl
    have n_b7_bm : b7 ≠ bm := G.ne h_b7
    have hg_bm : w0.heap.size ≤ bm := Nat.le_trans hB.size G.ge
    have h_b4 := ext_at G.ext h_b4
    have h_bl := ext_at G.ext h_bl
    have h_b7 := ext_at G.ext h_b7
    have hB := ext_trans hB G.ext
    have h_bm := G.at_
    clear G
    refine la hk rfl (a_call hk rfl rfl (c_fn hk rfl ok36) (c36 1 [ofD 3 [((List.range 68).map (fun c : Nat => adv x c 0 3 (startS seed x c))).flatten]] _ _ _ (rs_lit1 h_bm) (hGR.ext hB) (by simp) (by simp)) ?_)
    rintro e w ⟨rfl, hE⟩
    refine ⟨_, rfl, fun a hk => ?_⟩
    have h_b4 := ext_at hE h_b4
    have h_bl := ext_at hE h_bl
    have h_b7 := ext_at hE h_b7
    have h_bm := ext_at hE h_bm
    have hB := ext_trans hB hE
    clear hE
    refine la hk rfl (a_st44 (l := nodeAt seed 0 x) hk rfl rfl (by simp) h_b4 hZs fun a w hk W => ?_)
    have h_bl := W.keep (Ne.symm n_b4_bl) h_bl
    have h_b7 := W.keep (Ne.symm n_b4_b7) h_b7
    have h_bm := W.keep (Ne.symm n_b4_bm) h_bm
    have hB := W.below hB hg_b4
    have h_b4 := W.at_
    clear W
    refine lnil (hK9 _ _ ?_)
    refine wp_ret ?_
    exact ret44 (l := nodeAt seed 0 x) hk rfl rfl h_b4 (by simp) ⟨rfl, hB⟩

set_option maxRecDepth 4000 in
set_option maxHeartbeats 1000000 in
theorem c116 (seed : List UInt8) (h : Int) (w0 : World) : Calls Tryd.prog 116 #[Str seed, I h] w0 fun e w' => e = .returned (.bool (decide (seed.length = 32 ∧ 0 ≤ h ∧ h ≤ 6))) ∧ Ext w0 w' := by
  refine start 16 Tryd.func116 rfl rfl rfl fun a hk => ?_
  have hB : Ext w0 w0 := Below.refl _ _
  refine wp_seq_k fun K1 hK1 => ?_
  refine wp_region_lit ?_
  refine ls hk rfl rfl rfl (e_assign hk rfl _) fun a hk => ?_
  refine lnil (hK1 _ _ ?_)
  refine wp_seq_k fun K2 hK2 => ?_
  rcases (by omega : seed.length ≠ 32 ∨ (seed.length = 32 ∧ h < 0) ∨ (seed.length = 32 ∧ 0 ≤ h)) with h1 | ⟨h1, h2⟩ | ⟨h1, h2⟩
  · refine wp_region_lit ?_
    refine ls hk rfl rfl rfl (e_move hk rfl _) fun a hk => ?_
    refine ls hk rfl rfl rfl (e_lenStr hk rfl Tryd.underlying9 _) fun a hk => ?_
    refine ls hk rfl rfl rfl (e_eql (b := false) hk rfl rfl (decide_eq_false (by omega)) _) fun a hk => ?_
    refine ls hk rfl rfl rfl (e_move hk rfl _) fun a hk => ?_
    refine lno hk rfl rfl rfl fun a hk => ?_
    refine lno hk rfl rfl rfl fun a hk => ?_
    refine ls hk rfl rfl rfl (e_pickF hk rfl rfl _) fun a hk => ?_
    refine ls hk rfl rfl rfl (e_move hk rfl _) fun a hk => ?_
    refine lno hk rfl rfl rfl fun a hk => ?_
    refine lno hk rfl rfl rfl fun a hk => ?_
    refine ls hk rfl rfl rfl (e_pickF hk rfl rfl _) fun a hk => ?_
    refine ls hk rfl rfl rfl (e_assign hk rfl _) fun a hk => ?_
    refine lnil (hK2 _ _ ?_)
    refine wp_ret ?_
    exact ret1 hk rfl rfl ⟨by rw [show decide (seed.length = 32 ∧ 0 ≤ h ∧ h ≤ 6) = false by simp [h1]], hB⟩
  · refine wp_region_lit ?_
    refine ls hk rfl rfl rfl (e_move hk rfl _) fun a hk => ?_
    refine ls hk rfl rfl rfl (e_lenStr hk rfl Tryd.underlying9 _) fun a hk => ?_
    refine ls hk rfl rfl rfl (e_eql (b := true) hk rfl rfl (decide_eq_true (by omega)) _) fun a hk => ?_
    refine ls hk rfl rfl rfl (e_move hk rfl _) fun a hk => ?_
    refine ls hk rfl rfl rfl (e_move hk rfl _) fun a hk => ?_
    refine ls hk rfl rfl rfl (e_geq (b := false) hk rfl rfl (decide_eq_false (by omega)) _) fun a hk => ?_
    refine ls hk rfl rfl rfl (e_pickT hk rfl rfl _) fun a hk => ?_
    refine ls hk rfl rfl rfl (e_move hk rfl _) fun a hk => ?_
    refine lno hk rfl rfl rfl fun a hk => ?_
    refine lno hk rfl rfl rfl fun a hk => ?_
    refine ls hk rfl rfl rfl (e_pickF hk rfl rfl _) fun a hk => ?_
    refine ls hk rfl rfl rfl (e_assign hk rfl _) fun a hk => ?_
    refine lnil (hK2 _ _ ?_)
    refine wp_ret ?_
    exact ret1 hk rfl rfl ⟨by rw [show decide (seed.length = 32 ∧ 0 ≤ h ∧ h ≤ 6) = false by (rw [decide_eq_false]; omega)], hB⟩
  · refine wp_region_lit ?_
    refine ls hk rfl rfl rfl (e_move hk rfl _) fun a hk => ?_
    refine ls hk rfl rfl rfl (e_lenStr hk rfl Tryd.underlying9 _) fun a hk => ?_
    refine ls hk rfl rfl rfl (e_eql (b := true) hk rfl rfl (decide_eq_true (by omega)) _) fun a hk => ?_
    refine ls hk rfl rfl rfl (e_move hk rfl _) fun a hk => ?_
    refine ls hk rfl rfl rfl (e_move hk rfl _) fun a hk => ?_
    refine ls hk rfl rfl rfl (e_geq (b := true) hk rfl rfl (decide_eq_true (by omega)) _) fun a hk => ?_
    refine ls hk rfl rfl rfl (e_pickT hk rfl rfl _) fun a hk => ?_
    refine ls hk rfl rfl rfl (e_move hk rfl _) fun a hk => ?_
    refine ls hk rfl rfl rfl (e_move hk rfl _) fun a hk => ?_
    refine ls hk rfl rfl rfl (e_leq hk rfl rfl rfl _) fun a hk => ?_
    refine ls hk rfl rfl rfl (e_pickT hk rfl rfl _) fun a hk => ?_
    refine ls hk rfl rfl rfl (e_assign hk rfl _) fun a hk => ?_
    refine lnil (hK2 _ _ ?_)
    refine wp_ret ?_
    exact ret1 hk rfl rfl ⟨by rw [show decide (seed.length = 32 ∧ 0 ≤ h ∧ h ≤ 6) = decide (h ≤ 6) by simp [h1, h2]], hB⟩

theorem rdg_at2 {w : World} {b o n c : Nat} {s : List (List UInt8)} (h : Rdg w (some ⟨b, o, none⟩) n c s) (i : Nat) (hi : i < n) : w.rangeAt b (o + i * 16) ((s.getD i []).map B) := by
  obtain ⟨b', o', e, hr, _⟩ := h.get i hi
  cases e; exact hr
/-- What levels returns. -/
def LevRes (seed : List UInt8) (ht base : Nat) (e : Ending) (w : World) : Prop := ∃ g co sl, e = .returned (.slice (some ⟨g, 0, none⟩) (ht + 1) co) ∧ LvOk seed ht g sl w ∧ sl.length = ht + 1 ∧ w.ownsRow base 69 1 (.slice (some ⟨g, 0, none⟩) (ht + 1) co) (ht + 1) sl

set_option maxRecDepth 4000 in
set_option maxHeartbeats 1000000 in
theorem c117 (seed : List UInt8) (hs : seed.length ≤ 1000000) (ht : Nat) (hh : ht ≤ 6) (w0 : World) (hGR : GR w0) : Calls Tryd.prog 117 #[Str seed, I (ht : Nat)] w0 fun e w' => LevRes seed ht w0.heap.size e w' ∧ Ext w0 w' := by
  have hp6 : 2 ^ ht ≤ 2 ^ 6 := Nat.pow_le_pow_right (by decide) hh
  have hp0 : 0 < 2 ^ ht := Nat.pow_pos (by decide)
  refine start 64 Tryd.func117 rfl rfl rfl fun a hk => ?_
  have hB : Ext w0 w0 := Below.refl _ _
  refine wp_seq_k fun K1 hK1 => ?_
  refine wp_region_lit ?_
  refine ls hk rfl rfl rfl (e_assign hk rfl _) fun a hk => ?_
  refine lnil (hK1 _ _ ?_)
  refine wp_seq_k fun K2 hK2 => ?_
  refine wp_region_lit ?_
  refine ls hk rfl rfl rfl (e_assign hk rfl _) fun a hk => ?_
  refine lnil (hK2 _ _ ?_)
  refine wp_seq_k fun K3 hK3 => ?_
  refine wp_seq_k fun K4 hK4 => ?_
  refine wp_region_lit ?_
  refine ls hk rfl rfl rfl (e_assign hk rfl _) fun a hk => ?_
  refine lnil (hK4 _ _ ?_)
  refine wp_block ?_
  refine loopN (fun n a w => ∃ i : Nat, ∃ (v : Value), n = (2 ^ ht) - i ∧ i ≤ (2 ^ ht) ∧ Kn a 64 [(0, Str seed), (1, I (ht : Nat)), (5, v), (6, I i)] ∧ (Ext w0 w) ∧ (w.ownsRow w0.heap.size 44 16 v (i) (digs16 (levP seed 0 (i))))) ((2 ^ ht) - 0) ?_ fun n a w hI => ?_
  · exact ⟨0, .slice none 0 0, rfl, by omega, hk.sub _ ⟨rfl, rfl, rfl, rfl, trivial⟩, hB, ⟨rfl, .inl ⟨rfl, rfl⟩⟩⟩
  clear hk hB
  obtain ⟨i, v, rfl, hi_le, hk, hB, hown⟩ := hI
  refine wp_seq_k fun K5 hK5 => ?_
  refine wp_seq_k fun K6 hK6 => ?_
  refine wp_region_lit ?_
  refine ls hk rfl rfl rfl (e_move hk rfl _) fun a hk => ?_
  refine ls hk rfl rfl rfl (e_move hk rfl _) fun a hk => ?_
  refine ls hk rfl rfl rfl (e_shl (q := ((2 ^ ht : Nat) : Int)) hk rfl rfl (by omega) (by rw [Int.toNat_natCast, Nat.min_eq_left (by show _ ≤ 64; omega), show (1 : Int) * 2 ^ ht = ((2 ^ ht : Nat) : Int) by push_cast; omega]; exact i64 (Int.le_trans (by decide) (Int.natCast_nonneg (2 ^ ht))) (by omega)) _) fun a hk => ?_
  refine ls hk rfl rfl rfl (e_lss hk rfl rfl rfl _) fun a hk => ?_
  refine lnil (hK6 _ _ ?_)
  refine cdB hk rfl (fun hb => ?_) (fun hb => ?_)
  · have hi2 : i < 2 ^ ht := by have := of_decide_eq_true hb; omega
    refine wp_skip (hK5 _ _ ?_)
    refine wp_seq_k fun K7 hK7 => ?_
    refine wp_block ?_
    refine wp_region_lit ?_
    refine ls hk rfl rfl rfl (e_move hk rfl _) fun a hk => ?_
    refine ls hk rfl rfl rfl (e_move hk rfl _) fun a hk => ?_
    refine ls hk rfl rfl rfl (e_move hk rfl _) fun a hk => ?_
    refine la hk rfl (a_call hk rfl rfl (c_fn hk rfl ok131) (c131 seed hs i (by omega) _ (hGR.ext hB)) ?_)
    rintro e w ⟨rfl, hE⟩
    refine ⟨_, rfl, fun a hk => ?_⟩
    have hB := ext_trans hB hE
    have hown := own_ext hown hE
    clear hE
    refine la hk rfl (a_lit (cells := ((nodeAt seed 0 i).map B).toArray) (sz := 16) (by_ := 16) hk rfl rfl Tryd.underlying69 el44 (by decide) (by decide) (lit44 _ rfl _ (by simp)) (by simp) fun a w bl hk G => ?_)
    have hEl := G.ext
    have hg_bl : w0.heap.size ≤ bl := Nat.le_trans hB.size G.ge
    have hB := ext_trans hB G.ext
    have h_bl := G.at_
    clear G
    have hown := own_ext hown hEl
    have hRl : Rd w (some ⟨bl, 0, none⟩) 1 1 16 ((nodeAt seed 0 i).map B) := Rd.of_block h_bl (by simp) (Nat.le_refl _) fun i hi => by rw [Nat.zero_add]; simp
    refine la hk rfl (a_app (news := (nodeAt seed 0 i).map B) (sz := 16) (by_ := 16) hk rfl rfl hown rfl hRl (bytes_one _) Tryd.underlying69 el44 rfl (by decide) (by omega) (by omega) hB.size fun a w v1 hk hown2 hKp => ?_)
    have hB := kept_below hKp hB hown (Nat.le_refl _) hB.size
    rw [levP_succ] at hown2
    have hown := hown2
    clear hown2 hKp hRl
    refine ls hk rfl rfl rfl (e_assign hk rfl _) fun a hk => ?_
    refine lnil (hK7 _ _ ?_)
    refine wp_region_lit ?_
    refine ls hk rfl rfl rfl (e_move hk rfl _) fun a hk => ?_
    refine ls hk rfl rfl rfl (e_add (q := ((i + 1 : Nat) : Int)) hk rfl rfl (by rw [i64 (by omega) (by omega)]; omega) _) fun a hk => ?_
    refine ls hk rfl rfl rfl (e_assign hk rfl _) fun a hk => ?_
    refine lnil (show ∃ m : Nat, m < _ ∧ _ from ⟨(2 ^ ht) - (i + 1), by omega, i + 1, _, rfl, by omega, hk.sub _ ⟨rfl, rfl, rfl, rfl, trivial⟩, hB, hown⟩)
  · have hi2 : i = 2 ^ ht := by have := of_decide_eq_false hb; omega
    subst hi2
    obtain ⟨gf, cf, curf, rfl, hgf, hcurf, hcf, _, hcsf, htf⟩ := own_pts hown hp0
    have hnf : 2 ^ ht = 2 ^ (ht - 0) := by rw [Nat.sub_zero]
    refine wp_exit (hK3 _ _ ?_)
    refine wp_seq_k fun K8 hK8 => ?_
    refine wp_region_lit ?_
    refine ls hk rfl rfl rfl (e_move hk rfl _) fun a hk => ?_
    refine la hk rfl (a_lit (cells := #[.slice (some ⟨gf, 0, none⟩) (2 ^ ht) cf]) (zv := .slice none 0 0) (sz := 1) (by_ := 24) hk rfl rfl Tryd.underlying86 el69 (by decide) (by decide) (lit1s _ rfl _) rfl fun a w go hk G => ?_)
    have hLv : LvOk seed ht go [.slice (some ⟨gf, 0, none⟩) (2 ^ ht) cf] w := fun i s hs => by
      match i, hs with
      | 0, hs => cases hs; exact ⟨gf, cf, curf, rfl, hcf, ext_at G.ext hcurf, htf, G.ne hcurf⟩
    have hown : w.ownsRow w0.heap.size 69 1 (.slice (some ⟨go, 0, none⟩) 1 1) 1 [.slice (some ⟨gf, 0, none⟩) (2 ^ ht) cf] := own_mono (lit_own (n := 1) (sz := 1) G rfl (by decide)) hB.size
    have hB := ext_trans hB G.ext
    clear G
    refine ls hk rfl rfl rfl (e_assign hk rfl _) fun a hk => ?_
    refine lnil (hK8 _ _ ?_)
    refine wp_seq_k fun K9 hK9 => ?_
    refine wp_seq_k fun K10 hK10 => ?_
    refine wp_region_lit ?_
    refine ls hk rfl rfl rfl (e_assign hk rfl _) fun a hk => ?_
    refine lnil (hK10 _ _ ?_)
    refine wp_block ?_
    refine loopN (fun n a w => ∃ l : Nat, ∃ (g co : Nat) (sl : List Value), n = ht - l ∧ l ≤ ht ∧ Kn a 64 [(0, Str seed), (1, I (ht : Nat)), (7, .slice (some ⟨g, 0, none⟩) (l + 1) co), (8, I l)] ∧ (Ext w0 w) ∧ (LvOk seed ht g sl w) ∧ (sl.length = l + 1) ∧ (w.ownsRow w0.heap.size 69 1 (.slice (some ⟨g, 0, none⟩) (l + 1) co) (l + 1) sl)) (ht - 0) ?_ fun n a w hI => ?_
    · exact ⟨0, go, 1, _, rfl, by omega, hk.sub _ ⟨rfl, rfl, rfl, rfl, trivial⟩, hB, hLv, rfl, hown⟩
    clear hk hB hown
    obtain ⟨l, g, co, sl, rfl, hi_le, hk, hB, hLv, hsl, hown⟩ := hI
    refine wp_seq_k fun K11 hK11 => ?_
    refine wp_seq_k fun K12 hK12 => ?_
    refine wp_region_lit ?_
    refine ls hk rfl rfl rfl (e_move hk rfl _) fun a hk => ?_
    refine ls hk rfl rfl rfl (e_move hk rfl _) fun a hk => ?_
    refine ls hk rfl rfl rfl (e_lss hk rfl rfl rfl _) fun a hk => ?_
    refine lnil (hK12 _ _ ?_)
    refine cdB hk rfl (fun hb => ?_) (fun hb => ?_)
    · have hlh : l < ht := by have := of_decide_eq_true hb; omega
      obtain ⟨sv, hsv⟩ : ∃ sv, sl[l]? = some sv := ⟨_, List.getElem?_eq_getElem (by omega)⟩
      obtain ⟨bl0, cl0, rfl, hRd0⟩ := hLv.rdg l sv hsv
      obtain ⟨wS, hwS⟩ : ∃ wS, wS = w := ⟨_, rfl⟩
      have hES : Ext wS w := by rw [hwS]; exact Below.refl _ _
      have hBS : Ext w0 wS := by rw [hwS]; exact hB
      rw [← hwS] at hLv hown hRd0
      clear hwS
      have hpl : 2 ^ (ht - l) = 2 * 2 ^ (ht - (l + 1)) := by rw [show ht - l = (ht - (l + 1)) + 1 by omega, Nat.pow_succ, Nat.mul_comm]
      have hpb : 2 ^ (ht - l) ≤ 2 ^ ht := Nat.pow_le_pow_right (by decide) (by omega)
      have hq0 : 0 < 2 ^ (ht - (l + 1)) := Nat.pow_pos (by decide)
      have hcellO : wS.cell? ⟨g, l, none⟩ = some (.slice (some ⟨bl0, 0, none⟩) (2 ^ (ht - l)) cl0) := by
        have := hown.cells (g := g) rfl l _ hsv
        simpa [Addr.add_lit] using this
      have hkb : ∀ k, k < 2 ^ (ht - l) → (k + 1) * 2 ^ l ≤ 1000000 := fun k hk => by
        have h1 : (k + 1) * 2 ^ l ≤ 2 ^ (ht - l) * 2 ^ l := Nat.mul_le_mul_right _ hk
        rw [← Nat.pow_add, show ht - l + l = ht by omega] at h1
        omega
      refine wp_skip (hK11 _ _ ?_)
      refine wp_seq_k fun K13 hK13 => ?_
      refine wp_block ?_
      refine wp_seq_k fun K14 hK14 => ?_
      refine wp_region_lit ?_
      refine ls hk rfl rfl rfl (e_assign hk rfl _) fun a hk => ?_
      refine lnil (hK14 _ _ ?_)
      refine wp_seq_k fun K15 hK15 => ?_
      refine wp_seq_k fun K16 hK16 => ?_
      refine wp_region_lit ?_
      refine ls hk rfl rfl rfl (e_assign hk rfl _) fun a hk => ?_
      refine lnil (hK16 _ _ ?_)
      refine wp_block ?_
      refine loopN (fun n a w => ∃ j : Nat, ∃ (v : Value), n = (2 ^ (ht - (l + 1))) - j ∧ j ≤ (2 ^ (ht - (l + 1))) ∧ Kn a 64 [(0, Str seed), (1, I (ht : Nat)), (7, .slice (some ⟨g, 0, none⟩) (l + 1) co), (8, I l), (9, v), (10, I ((2 * j : Nat) : Int))] ∧ (Ext w0 w) ∧ (Ext wS w) ∧ (w.ownsRow wS.heap.size 44 16 v (j) (digs16 (levP seed (l + 1) (j))))) ((2 ^ (ht - (l + 1))) - 0) ?_ fun n a w hI => ?_
      · exact ⟨0, .slice none 0 0, rfl, by omega, hk.sub _ ⟨rfl, rfl, rfl, rfl, rfl, rfl, trivial⟩, hB, hES, ⟨rfl, .inl ⟨rfl, rfl⟩⟩⟩
      clear hk hB
      obtain ⟨j, v, rfl, hi_le, hk, hB, hES, hownN⟩ := hI
      refine wp_seq_k fun K17 hK17 => ?_
      refine wp_seq_k fun K18 hK18 => ?_
      refine wp_region_lit ?_
      refine ls hk rfl rfl rfl (e_move hk rfl _) fun a hk => ?_
      refine ls hk rfl rfl rfl (e_add (q := ((2 * j + 1 : Nat) : Int)) hk rfl rfl (by rw [i64 (by omega) (by omega)]; omega) _) fun a hk => ?_
      refine ls hk rfl rfl rfl (e_move hk rfl _) fun a hk => ?_
      refine ls hk rfl rfl rfl (e_move hk rfl _) fun a hk => ?_
      refine ls hk rfl rfl rfl (e_idxS1 l hk rfl rfl Tryd.underlying86 sz69 rfl (by omega) _) fun a hk => ?_
      refine ls hk rfl rfl rfl (r_load1 hk rfl Tryd.underlying69 rfl (by rw [Nat.zero_add]; exact ext_cell hES hcellO)) fun a hk => ?_
      refine ls hk rfl rfl rfl (e_lenS hk rfl Tryd.underlying69 _) fun a hk => ?_
      refine ls hk rfl rfl rfl (e_lss (b := decide (j < 2 ^ (ht - (l + 1)))) hk rfl rfl (by rw [decide_eq_decide]; omega) _) fun a hk => ?_
      refine lnil (hK18 _ _ ?_)
      refine cdB hk rfl (fun hb => ?_) (fun hb => ?_)
      · have hj2 : j < 2 ^ (ht - (l + 1)) := of_decide_eq_true hb
        have hg0 := lev_get seed ht l (2 * j) (by omega)
        have hg1 := lev_get seed ht l (2 * j + 1) (by omega)
        refine wp_skip (hK17 _ _ ?_)
        refine wp_seq_k fun K19 hK19 => ?_
        refine wp_block ?_
        refine wp_region_ok (fun _ => True) [0, 0, 0, 0, 1, 0, 0, 1, 0, 0, 0, 1, 0, 0, 0, 1, 2, 2, 2, 0] mixed ?_
        have hB := hB.drew
        have hES := ext_trans hES (ext_drew w)
        have hownN := own_ext hownN (ext_drew w)
        have hRd := hRd0.ext hES
        refine d0 0 hk rfl (by kernel_rfl) rfl rfl rfl rfl (fun _ => e_move hk rfl _) fun a hk => ?_
        refine d0 1 hk rfl (by kernel_rfl) rfl rfl rfl rfl (fun _ => e_move hk rfl _) fun a hk => ?_
        refine d0 2 hk rfl (by kernel_rfl) rfl rfl rfl rfl (fun _ => e_move hk rfl _) fun a hk => ?_
        refine d0 3 hk rfl (by kernel_rfl) rfl rfl rfl rfl (fun _ => e_idxS1 l hk rfl rfl Tryd.underlying86 sz69 rfl (by omega) _) fun a hk => ?_
        refine d1 4 hk rfl (by kernel_rfl) rfl rfl rfl rfl (r_load1 hk rfl Tryd.underlying69 rfl (by rw [Nat.zero_add]; exact ext_cell hES hcellO)) fun a hk => ?_
        refine d0 5 hk rfl (by kernel_rfl) rfl rfl rfl rfl (fun _ => e_move hk rfl _) fun a hk => ?_
        refine d0 6 hk rfl (by kernel_rfl) rfl rfl rfl rfl (fun _ => e_idxSn (2 * j) hk rfl rfl Tryd.underlying69 sz44 rfl (by omega) _) fun a hk => ?_
        refine d1 7 hk rfl (by kernel_rfl) rfl rfl rfl rfl (s_ldR44 (l := nodeAt seed l (2 * j)) hk rfl (by have := rdg_at2 hRd (2 * j) (by omega); rw [hg0] at this; exact this) (by simp)) fun a hk => ?_
        refine d0 8 hk rfl (by kernel_rfl) rfl rfl rfl rfl (fun _ => e_move hk rfl _) fun a hk => ?_
        refine d0 9 hk rfl (by kernel_rfl) rfl rfl rfl rfl (fun _ => e_move hk rfl _) fun a hk => ?_
        refine d0 10 hk rfl (by kernel_rfl) rfl rfl rfl rfl (fun _ => e_idxS1 l hk rfl rfl Tryd.underlying86 sz69 rfl (by omega) _) fun a hk => ?_
        refine d1 11 hk rfl (by kernel_rfl) rfl rfl rfl rfl (r_load1 hk rfl Tryd.underlying69 rfl (by rw [Nat.zero_add]; exact ext_cell hES hcellO)) fun a hk => ?_
        refine d0 12 hk rfl (by kernel_rfl) rfl rfl rfl rfl (fun _ => e_move hk rfl _) fun a hk => ?_
        refine d0 13 hk rfl (by kernel_rfl) rfl rfl rfl rfl (fun _ => e_add (q := ((2 * j + 1 : Nat) : Int)) hk rfl rfl (by rw [i64 (by omega) (by omega)]; omega) _) fun a hk => ?_
        refine d0 14 hk rfl (by kernel_rfl) rfl rfl rfl rfl (fun _ => e_idxSn (2 * j + 1) hk rfl rfl Tryd.underlying69 sz44 rfl (by omega) _) fun a hk => ?_
        refine d1 15 hk rfl (by kernel_rfl) rfl rfl rfl rfl (s_ldR44 (l := nodeAt seed l (2 * j + 1)) hk rfl (by have := rdg_at2 hRd (2 * j + 1) (by omega); rw [hg1] at this; exact this) (by simp)) fun a hk => ?_
        refine da 16 hk rfl (by kernel_rfl) rfl rfl (a_call hk rfl rfl (c_fn hk rfl ok90) (c90 (nodeAt seed l (2 * j)) (nodeAt seed l (2 * j + 1)) _ (hGR.ext hB) (by simp) (by simp)) ?_)
        rintro e w ⟨rfl, hE⟩
        refine ⟨_, rfl, fun a hk => ?_⟩
        have hB := ext_trans hB hE
        have hES := ext_trans hES hE
        have hownN := own_ext hownN hE
        clear hE
        refine da 17 hk rfl (by kernel_rfl) rfl rfl (a_lit (cells := ((nodeAt seed (l + 1) j).map B).toArray) (sz := 16) (by_ := 16) hk rfl rfl Tryd.underlying69 el44 (by decide) (by decide) (lit44 _ rfl _ (by simp)) (by simp) fun a w bl hk G => ?_)
        have hEl := G.ext
        have hg_bl : w0.heap.size ≤ bl := Nat.le_trans hB.size G.ge
        have hB := ext_trans hB G.ext
        have h_bl := G.at_
        clear G
        have hES := ext_trans hES hEl
        have hownN := own_ext hownN hEl
        have hRl : Rd w (some ⟨bl, 0, none⟩) 1 1 16 ((nodeAt seed (l + 1) j).map B) := Rd.of_block h_bl (by simp) (Nat.le_refl _) fun i hi => by rw [Nat.zero_add]; simp
        refine da 18 hk rfl (by kernel_rfl) rfl rfl (a_app (news := (nodeAt seed (l + 1) j).map B) (sz := 16) (by_ := 16) hk rfl rfl hownN rfl hRl (bytes_one _) Tryd.underlying69 el44 rfl (by decide) (by omega) (by omega) hES.size fun a w v1 hk hown2 hKp => ?_)
        have hB := kept_below hKp hB hownN hBS.size hB.size
        have hES := kept_below hKp hES hownN (Nat.le_refl _) hES.size
        rw [levP_succ] at hown2
        have hownN := hown2
        clear hown2 hKp hRl hRd
        refine d0 19 hk rfl (by kernel_rfl) rfl rfl rfl rfl (fun _ => e_assign hk rfl _) fun a hk => ?_
        refine okFin (by kernel_rfl) (hK19 _ _ ?_)
        refine wp_region_lit ?_
        refine ls hk rfl rfl rfl (e_move hk rfl _) fun a hk => ?_
        refine ls hk rfl rfl rfl (e_add (q := ((2 * (j + 1) : Nat) : Int)) hk rfl rfl (by rw [i64 (by omega) (by omega)]; omega) _) fun a hk => ?_
        refine ls hk rfl rfl rfl (e_assign hk rfl _) fun a hk => ?_
        refine lnil (show ∃ m : Nat, m < _ ∧ _ from ⟨(2 ^ (ht - (l + 1))) - (j + 1), by omega, j + 1, _, rfl, by omega, hk.sub _ ⟨rfl, rfl, rfl, rfl, rfl, rfl, trivial⟩, hB, hES, hownN⟩)
      · have hj2 : j = 2 ^ (ht - (l + 1)) := by have := of_decide_eq_false hb; omega
        subst hj2
        obtain ⟨gn, cn, curn, rfl, hgn, hcurn, hcn, _, hcsn, htn⟩ := own_pts hownN hq0
        refine wp_exit (hK15 _ _ ?_)
        have hLv := hLv.ext hES
        have hown := own_ext hown hES
        have hgl : g < wS.heap.size := by
          exact World.block_lt_of_cell? wS _ hcellO
        clear hES hownN hRd0 hcellO
        refine wp_region_lit ?_
        refine ls hk rfl rfl rfl (e_move hk rfl _) fun a hk => ?_
        refine ls hk rfl rfl rfl (e_move hk rfl _) fun a hk => ?_
        refine la hk rfl (a_lit (cells := #[.slice (some ⟨gn, 0, none⟩) (2 ^ (ht - (l + 1))) cn]) (zv := .slice none 0 0) (sz := 1) (by_ := 24) hk rfl rfl Tryd.underlying86 el69 (by decide) (by decide) (lit1s _ rfl _) rfl fun a w bl hk G => ?_)
        have hLv := hLv.ext G.ext
        have hown := own_ext hown G.ext
        have hcurn := ext_at G.ext hcurn
        have hB := ext_trans hB G.ext
        have hRl : Rd w (some ⟨bl, 0, none⟩) 1 1 1 [.slice (some ⟨gn, 0, none⟩) (2 ^ (ht - (l + 1))) cn] := Rd.of_block G.at_ rfl (Nat.le_refl _) fun i hi => by rw [Nat.zero_add]; simp
        clear G
        refine la hk rfl (a_app2 (news := [.slice (some ⟨gn, 0, none⟩) (2 ^ (ht - (l + 1))) cn]) (sz := 1) (by_ := 24) hk rfl rfl hown rfl hRl (by simp [Value.oneCell']) Tryd.underlying86 el69 rfl (by decide) (by omega) (by omega) (by decide) hB.size fun a w v1 hk hown2 hKp hloc => ?_)
        obtain ⟨g2, co2, cur2, rfl, _⟩ := own_pts hown2 (Nat.succ_pos _)
        have hLv2 := hLv.push hsl rfl hKp ((hloc g2 rfl).imp (fun h => by simpa [Value.ownBlock] using h.symm) id) hcn hcurn htn (by omega)
        have hB := kept_below hKp hB hown (Nat.le_refl _) hB.size
        clear hown hLv hKp hloc hRl hcurn
        refine ls hk rfl rfl rfl (e_assign hk rfl _) fun a hk => ?_
        refine lnil (hK13 _ _ ?_)
        refine wp_region_lit ?_
        refine ls hk rfl rfl rfl (e_move hk rfl _) fun a hk => ?_
        refine ls hk rfl rfl rfl (e_add (q := ((l + 1 : Nat) : Int)) hk rfl rfl (by rw [i64 (by omega) (by omega)]; omega) _) fun a hk => ?_
        refine ls hk rfl rfl rfl (e_assign hk rfl _) fun a hk => ?_
        refine lnil (show ∃ m : Nat, m < _ ∧ _ from ⟨ht - (l + 1), by omega, l + 1, _, _, _, rfl, by omega, hk.sub _ ⟨rfl, rfl, rfl, rfl, trivial⟩, hB, hLv2, (by rw [List.length_append, hsl]; rfl), hown2⟩)
    · have hlh : ht = l := by have := of_decide_eq_false hb; omega
      subst hlh
      refine wp_exit (hK9 _ _ ?_)
      refine wp_seq_k fun K20 hK20 => ?_
      refine wp_region_lit ?_
      refine ls hk rfl rfl rfl (e_move hk rfl _) fun a hk => ?_
      refine ls hk rfl rfl rfl (e_assign hk rfl _) fun a hk => ?_
      refine lnil (hK20 _ _ ?_)
      refine wp_ret ?_
      exact ret1 hk rfl rfl ⟨⟨g, co, sl, rfl, hLv, hsl, hown⟩, hB⟩

end Go.Proofs.YtidfbboalbchiaaDoor
