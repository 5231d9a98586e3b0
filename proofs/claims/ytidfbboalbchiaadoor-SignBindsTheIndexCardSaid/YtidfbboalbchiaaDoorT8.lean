/- Part 8 of the texts that a claim's last texts stand on: A54, EvS, Ord2, A55. Conditions: those that each theorem names. -/
import Derived.Test.YtidfbboalbchiaaDoorT7
import Derived.Test.YtidfbboalbchiaaDoorT5
import Derived.Test.YtidfbboalbchiaaDoorT3
import Derived.Test.YtidfbboalbchiaaDoorT2
namespace Go.Proofs.YtidfbboalbchiaaDoor
open Go Go.RowKit

theorem own_cell {w : World} {base g n cap : Nat} {e : TypeId} {sl : List Value} {sv : Value} (h : w.ownsRow base e 1 (.slice (some ⟨g, 0, none⟩) n cap) n sl) (l : Nat) (hs : sl[l]? = some sv) : w.cell? ⟨g, 0 + l, none⟩ = some sv := by
  have := h.cells (g := g) rfl l _ hs
  simpa [Addr.add_lit] using this
theorem lev_top {seed : List UInt8} {h : Nat} {w : World} {b c : Nat} (hR : Rdg w (some ⟨b, 0, none⟩) (2 ^ (h - h)) c (lev seed h h)) : w.rangeAt b (0 + 0 * 16) ((nodeAt seed h 0).map B) := by
  have h0 : 0 < 2 ^ (h - h) := Nat.pow_pos (by decide)
  have h1 := rdg_at2 hR 0 h0
  rwa [lev_get seed h h 0 h0] at h1
theorem sib_lt (x h l : Nat) (hx : x < 2 ^ h) (hl : l < h) : sib (x / 2 ^ l) < 2 ^ (h - l) := by
  have h1 : x / 2 ^ l < 2 ^ (h - l) := by
    rw [Nat.div_lt_iff_lt_mul (Nat.pow_pos (by decide)), ← Nat.pow_add, show h - l + l = h by omega]
    exact hx
  have h2 : 2 ^ (h - l) = 2 * 2 ^ (h - (l + 1)) := by rw [show h - l = (h - (l + 1)) + 1 by omega, Nat.pow_succ, Nat.mul_comm]
  unfold sib
  generalize x / 2 ^ l = y at h1
  generalize 2 ^ (h - l) = P at h1 h2 ⊢
  generalize 2 ^ (h - (l + 1)) = Q at h2
  split <;> omega
theorem i_succ (y : Nat) (h : y ≤ 1000000) : IntKind.i64.wrap ((y : Int) + 1) = ((y + 1 : Nat) : Int) := by rw [i64 (by omega) (by omega)]; omega
theorem i_pred (y : Nat) (h : y ≤ 1000000) (h1 : 1 ≤ y) : IntKind.i64.wrap ((y : Int) - 1) = ((y - 1 : Nat) : Int) := by rw [i64 (by omega) (by omega)]; omega

set_option maxRecDepth 4000 in
set_option maxHeartbeats 1000000 in
theorem c61 (seed : List UInt8) (h : Int) (w0 : World) (hGR : GR w0) : Calls Tryd.prog 61 #[Str seed, I h] w0 fun e w' => e = .returned (.tuple #[D (pubR seed h).1, I (pubR seed h).2]) ∧ Ext w0 w' := by
  refine start 21 Tryd.func61 rfl rfl rfl fun a hk => ?_
  have hB : Ext w0 w0 := Below.refl _ _
  refine wp_seq_k fun K1 hK1 => ?_
  refine wp_region_lit ?_
  refine la hk rfl (a_alloc hk rfl zr44 fun a w b4 hk G => ?_)
  have hg_b4 : w0.heap.size ≤ b4 := Nat.le_trans hB.size G.ge
  have hB := ext_trans hB G.ext
  have h_b4 := G.at_
  clear G
  refine ls hk rfl rfl rfl (e_assign hk rfl _) fun a hk => ?_
  refine lnil (hK1 _ _ ?_)
  refine wp_seq_k fun K2 hK2 => ?_
  refine wp_region_lit ?_
  refine ls hk rfl rfl rfl (e_move hk rfl _) fun a hk => ?_
  refine ls hk rfl rfl rfl (e_move hk rfl _) fun a hk => ?_
  refine la hk rfl (a_call hk rfl rfl (c_fn hk rfl ok116) (c116 seed h _) ?_)
  rintro e w ⟨rfl, hE⟩
  refine ⟨_, rfl, fun a hk => ?_⟩
  have h_b4 := ext_at hE h_b4
  have hB := ext_trans hB hE
  clear hE
  refine ls hk rfl rfl rfl (e_assign hk rfl _) fun a hk => ?_
  refine lnil (hK2 _ _ ?_)
  refine wp_seq_k fun K3 hK3 => ?_
  refine wp_seq_k fun K4 hK4 => ?_
  refine wp_region_lit ?_
  refine ls hk rfl rfl rfl (e_move hk rfl _) fun a hk => ?_
  refine ls hk rfl rfl rfl (e_not hk rfl _) fun a hk => ?_
  refine lnil (hK4 _ _ ?_)
  refine cdB hk rfl (fun hb => ?_) (fun hb => ?_)
  · have hbad : ¬ (seed.length = 32 ∧ 0 ≤ h ∧ h ≤ 6) := fun hc => by rw [decide_eq_true hc] at hb; cases hb
    refine wp_seq_k fun K5 hK5 => ?_
    refine wp_region_lit ?_
    refine ls hk rfl rfl rfl (e_zero44 hk _) fun a hk => ?_
    refine la hk rfl (a_st44 (l := zD) hk rfl rfl (by simp [zD]) h_b4 rfl fun a w hk W => ?_)
    have hB := W.below hB hg_b4
    have h_b4 := W.at_
    clear W
    refine ls hk rfl rfl rfl (e_assign hk rfl _) fun a hk => ?_
    refine lnil (hK5 _ _ ?_)
    refine wp_ret ?_
    simp only [then_ret]
    exact ret44b (l := zD) hk rfl rfl rfl h_b4 (by simp [zD]) ⟨by rw [show pubR seed h = (zD, 1) by unfold pubR; rw [if_pos (by omega)]], hB⟩
  · have hgood : seed.length = 32 ∧ 0 ≤ h ∧ h ≤ 6 := Classical.byContradiction fun hc => by rw [decide_eq_false hc] at hb; cases hb
    obtain ⟨ht, rfl⟩ : ∃ ht : Nat, h = ht := ⟨h.toNat, by omega⟩
    have hp6 : 2 ^ ht ≤ 2 ^ 6 := Nat.pow_le_pow_right (by decide) (by omega)
    refine wp_skip (hK3 _ _ ?_)
    refine wp_seq_k fun K6 hK6 => ?_
    refine wp_region_lit ?_
    refine ls hk rfl rfl rfl (e_move hk rfl _) fun a hk => ?_
    refine ls hk rfl rfl rfl (e_move hk rfl _) fun a hk => ?_
    have hBs := hB
    refine la hk rfl (a_call hk rfl rfl (c_fn hk rfl ok117) (c117 seed (by omega) ht (by omega) _ (hGR.ext hB)) ?_)
    rintro e w ⟨⟨g, co, sl, rfl, hLv, hsl, hown⟩, hE⟩
    refine ⟨_, rfl, fun a hk => ?_⟩
    have h_b4 := ext_at hE h_b4
    have hB := ext_trans hB hE
    have hown := own_mono hown hBs.size
    obtain ⟨sv, hsv⟩ : ∃ sv, sl[ht]? = some sv := ⟨_, List.getElem?_eq_getElem (by omega)⟩
    obtain ⟨bt, ct, rfl, hRt⟩ := hLv.rdg ht sv hsv
    have ht0 : 0 < 2 ^ (ht - ht) := Nat.pow_pos (by decide)
    clear hE
    refine ls hk rfl rfl rfl (e_move hk rfl _) fun a hk => ?_
    refine ls hk rfl rfl rfl (e_idxS1 ht hk rfl rfl Tryd.underlying86 sz69 rfl (by omega) _) fun a hk => ?_
    refine ls hk rfl rfl rfl (r_load1 hk rfl Tryd.underlying69 rfl (own_cell hown ht hsv)) fun a hk => ?_
    refine ls hk rfl rfl rfl (e_idxSn 0 hk rfl rfl Tryd.underlying69 sz44 rfl ht0 _) fun a hk => ?_
    refine ls hk rfl rfl rfl (s_ldR44 (l := nodeAt seed ht 0) hk rfl (lev_top hRt) (by simp)) fun a hk => ?_
    refine la hk rfl (a_st44 (l := nodeAt seed ht 0) hk rfl rfl (by simp) h_b4 rfl fun a w hk W => ?_)
    have hB := W.below hB hg_b4
    have h_b4 := W.at_
    clear W
    refine ls hk rfl rfl rfl (e_assign hk rfl _) fun a hk => ?_
    refine lnil (hK6 _ _ ?_)
    refine wp_ret ?_
    exact ret44b (l := nodeAt seed ht 0) hk rfl rfl rfl h_b4 (by simp) ⟨by rw [show pubR seed (ht : Int) = (nodeAt seed ht 0, 0) by unfold pubR; rw [if_neg (by omega)]; rfl], hB⟩

set_option maxRecDepth 4000 in
set_option maxHeartbeats 1000000 in
theorem c62 (seed : List UInt8) (h i : Int) (hi : is64 i) (m : List UInt8) (hm : m.length ≤ 1000000) (w0 : World) (hGR : GR w0) : Calls Tryd.prog 62 #[Str seed, I h, I i, Str m] w0 fun e w' => e = .returned (.tuple #[Str (sigR seed h i m).1, I (sigR seed h i m).2]) ∧ Ext w0 w' := by
  refine start 94 Tryd.func62 rfl rfl rfl fun a hk => ?_
  have hB : Ext w0 w0 := Below.refl _ _
  refine wp_seq_k fun K1 hK1 => ?_
  refine wp_region_lit ?_
  refine ls hk rfl rfl rfl (e_assign hk rfl _) fun a hk => ?_
  refine ls hk rfl rfl rfl (e_assign hk rfl _) fun a hk => ?_
  refine lnil (hK1 _ _ ?_)
  refine wp_seq_k fun K2 hK2 => ?_
  refine wp_region_lit ?_
  refine ls hk rfl rfl rfl (e_move hk rfl _) fun a hk => ?_
  refine ls hk rfl rfl rfl (e_move hk rfl _) fun a hk => ?_
  refine la hk rfl (a_call hk rfl rfl (c_fn hk rfl ok116) (c116 seed h _) ?_)
  rintro e w ⟨rfl, hE⟩
  refine ⟨_, rfl, fun a hk => ?_⟩
  have hB := ext_trans hB hE
  clear hE
  refine ls hk rfl rfl rfl (e_assign hk rfl _) fun a hk => ?_
  refine lnil (hK2 _ _ ?_)
  refine wp_seq_k fun K3 hK3 => ?_
  refine wp_seq_k fun K4 hK4 => ?_
  refine wp_region_lit ?_
  refine ls hk rfl rfl rfl (e_move hk rfl _) fun a hk => ?_
  refine ls hk rfl rfl rfl (e_not hk rfl _) fun a hk => ?_
  refine lnil (hK4 _ _ ?_)
  refine cdB hk rfl (fun hb => ?_) (fun hb => ?_)
  · have hbad : ¬ (seed.length = 32 ∧ 0 ≤ h ∧ h ≤ 6) := fun hc => by rw [decide_eq_true hc] at hb; cases hb
    refine wp_seq_k fun K5 hK5 => ?_
    refine wp_region_lit ?_
    refine ls hk rfl rfl rfl (e_assign hk rfl _) fun a hk => ?_
    refine ls hk rfl rfl rfl (e_assign hk rfl _) fun a hk => ?_
    refine lnil (hK5 _ _ ?_)
    refine wp_ret ?_
    simp only [then_ret]
    exact ret2 hk rfl rfl rfl ⟨by rw [show sigR seed h i m = ([], 1) by unfold sigR; rw [if_pos (by omega)]], hB⟩
  · have hgood : seed.length = 32 ∧ 0 ≤ h ∧ h ≤ 6 := Classical.byContradiction fun hc => by rw [decide_eq_false hc] at hb; cases hb
    obtain ⟨ht, rfl⟩ : ∃ ht : Nat, h = ht := ⟨h.toNat, by omega⟩
    have hp6 : 2 ^ ht ≤ 2 ^ 6 := Nat.pow_le_pow_right (by decide) (by omega)
    refine wp_skip (hK3 _ _ ?_)
    refine wp_seq_k fun K6 hK6 => ?_
    refine wp_seq_k fun K7 hK7 => ?_
    rcases (by omega : i < 0 ∨ 0 ≤ i) with hi0 | hi0
    · refine wp_region_lit ?_
      refine ls hk rfl rfl rfl (e_move hk rfl _) fun a hk => ?_
      refine ls hk rfl rfl rfl (e_lss (b := true) hk rfl rfl (decide_eq_true hi0) _) fun a hk => ?_
      refine ls hk rfl rfl rfl (e_move hk rfl _) fun a hk => ?_
      refine lno hk rfl rfl rfl fun a hk => ?_
      refine lno hk rfl rfl rfl fun a hk => ?_
      refine lno hk rfl rfl rfl fun a hk => ?_
      refine lno hk rfl rfl rfl fun a hk => ?_
      refine ls hk rfl rfl rfl (e_pickT hk rfl rfl _) fun a hk => ?_
      refine lnil (hK7 _ _ ?_)
      refine cdT hk rfl ?_
      refine wp_seq_k fun K8 hK8 => ?_
      refine wp_region_lit ?_
      refine ls hk rfl rfl rfl (e_assign hk rfl _) fun a hk => ?_
      refine ls hk rfl rfl rfl (e_assign hk rfl _) fun a hk => ?_
      refine lnil (hK8 _ _ ?_)
      refine wp_ret ?_
      simp only [then_ret]
      exact ret2 hk rfl rfl rfl ⟨by rw [show sigR seed (ht : Int) i m = ([], 22) by unfold sigR; rw [if_neg (by omega), if_pos (by omega)]], hB⟩
    · refine wp_region_lit ?_
      refine ls hk rfl rfl rfl (e_move hk rfl _) fun a hk => ?_
      refine ls hk rfl rfl rfl (e_lss (b := false) hk rfl rfl (decide_eq_false (by omega)) _) fun a hk => ?_
      refine ls hk rfl rfl rfl (e_move hk rfl _) fun a hk => ?_
      refine ls hk rfl rfl rfl (e_move hk rfl _) fun a hk => ?_
      refine ls hk rfl rfl rfl (e_move hk rfl _) fun a hk => ?_
      refine ls hk rfl rfl rfl (e_shl (q := ((2 ^ ht : Nat) : Int)) hk rfl rfl (by omega) (by rw [Int.toNat_natCast, Nat.min_eq_left (by show _ ≤ 64; omega), show (1 : Int) * 2 ^ ht = ((2 ^ ht : Nat) : Int) by push_cast; omega]; exact i64 (Int.le_trans (by decide) (Int.natCast_nonneg (2 ^ ht))) (by omega)) _) fun a hk => ?_
      refine ls hk rfl rfl rfl (e_geq hk rfl rfl rfl _) fun a hk => ?_
      refine ls hk rfl rfl rfl (e_pickF hk rfl rfl _) fun a hk => ?_
      refine lnil (hK7 _ _ ?_)
      refine cdB hk rfl (fun hb => ?_) (fun hb => ?_)
      · have hix : i ≥ ((2 ^ ht : Nat) : Int) := of_decide_eq_true hb
        refine wp_seq_k fun K9 hK9 => ?_
        refine wp_region_lit ?_
        refine ls hk rfl rfl rfl (e_assign hk rfl _) fun a hk => ?_
        refine ls hk rfl rfl rfl (e_assign hk rfl _) fun a hk => ?_
        refine lnil (hK9 _ _ ?_)
        refine wp_ret ?_
        simp only [then_ret]
        exact ret2 hk rfl rfl rfl ⟨by rw [show sigR seed (ht : Int) i m = ([], 22) by unfold sigR; rw [if_neg (by omega), if_pos (.inr (by rw [Int.toNat_natCast]; exact hix))]], hB⟩
      · have hix : ¬ i ≥ ((2 ^ ht : Nat) : Int) := of_decide_eq_false hb
        refine wp_skip (hK6 _ _ ?_)
        refine wp_seq_k fun K10 hK10 => ?_
        refine wp_seq_k fun K11 hK11 => ?_
        refine wp_region_lit ?_
        refine ls hk rfl rfl rfl (e_move hk rfl _) fun a hk => ?_
        refine ls hk rfl rfl rfl (e_lenStr hk rfl Tryd.underlying9 _) fun a hk => ?_
        refine ls hk rfl rfl rfl (e_gtr (b := false) hk rfl rfl (decide_eq_false (by omega)) _) fun a hk => ?_
        refine lnil (hK11 _ _ ?_)
        refine cdF hk rfl ?_
        refine wp_skip (hK10 _ _ ?_)
        refine wp_seq_k fun K12 hK12 => ?_
        obtain ⟨x, rfl⟩ : ∃ x : Nat, i = x := ⟨i.toNat, by omega⟩
        have hx64 : x < 64 := by omega
        have hxl := length_encI_le x
        have hxb : x < 2 ^ ht := by omega
        obtain ⟨d, hd⟩ : ∃ d, d = (digestS (nodeAt seed ht 0) x m) := ⟨_, rfl⟩
        have hd16 : d.length = 16 := by rw [hd]; simp
        refine wp_region_lit ?_
        refine ls hk rfl rfl rfl (e_move hk rfl _) fun a hk => ?_
        refine ls hk rfl rfl rfl (e_move hk rfl _) fun a hk => ?_
        have hBs := hB
        refine la hk rfl (a_call hk rfl rfl (c_fn hk rfl ok117) (c117 seed (by omega) ht (by omega) _ (hGR.ext hB)) ?_)
        rintro e w ⟨⟨g, co, sl, rfl, hLv, hsl, hown⟩, hE⟩
        refine ⟨_, rfl, fun a hk => ?_⟩
        have hB := ext_trans hB hE
        have hown := own_mono hown hBs.size
        obtain ⟨sv, hsv⟩ : ∃ sv, sl[ht]? = some sv := ⟨_, List.getElem?_eq_getElem (by omega)⟩
        obtain ⟨bt, ct, rfl, hRt⟩ := hLv.rdg ht sv hsv
        have ht0 : 0 < 2 ^ (ht - ht) := Nat.pow_pos (by decide)
        clear hE
        refine ls hk rfl rfl rfl (e_assign hk rfl _) fun a hk => ?_
        refine lnil (hK12 _ _ ?_)
        refine wp_seq_k fun K13 hK13 => ?_
        refine wp_region_lit ?_
        refine ls hk rfl rfl rfl (e_move hk rfl _) fun a hk => ?_
        refine ls hk rfl rfl rfl (e_move hk rfl _) fun a hk => ?_
        refine ls hk rfl rfl rfl (e_idxS1 ht hk rfl rfl Tryd.underlying86 sz69 rfl (by omega) _) fun a hk => ?_
        refine ls hk rfl rfl rfl (r_load1 hk rfl Tryd.underlying69 rfl (own_cell hown ht hsv)) fun a hk => ?_
        refine ls hk rfl rfl rfl (e_idxSn 0 hk rfl rfl Tryd.underlying69 sz44 rfl ht0 _) fun a hk => ?_
        refine ls hk rfl rfl rfl (s_ldR44 (l := nodeAt seed ht 0) hk rfl (lev_top hRt) (by simp)) fun a hk => ?_
        refine ls hk rfl rfl rfl (e_move hk rfl _) fun a hk => ?_
        refine ls hk rfl rfl rfl (e_move hk rfl _) fun a hk => ?_
        refine la hk rfl (a_call hk rfl rfl (c_fn hk rfl ok64) (c64 (nodeAt seed ht 0) x m _ (hGR.ext hB) (by simp) (is64_n (by omega)) hm) ?_)
        rintro e w ⟨rfl, hE⟩
        refine ⟨_, rfl, fun a hk => ?_⟩
        have hLv := hLv.ext hE
        have hown := own_ext hown hE
        have hRt := hRt.ext hE
        have hB := ext_trans hB hE
        rw [← hd] at hk
        clear hE
        refine la hk rfl (a_call hk rfl rfl (c_fn hk rfl ok60) (c60 d hd16 _) ?_)
        rintro e w ⟨⟨adg, cg, rfl, hRg⟩, hE⟩
        refine ⟨_, rfl, fun a hk => ?_⟩
        have hLv := hLv.ext hE
        have hown := own_ext hown hE
        have hRt := hRt.ext hE
        have hB := ext_trans hB hE
        clear hE
        refine ls hk rfl rfl rfl (e_assign hk rfl _) fun a hk => ?_
        refine lnil (hK13 _ _ ?_)
        refine wp_seq_k fun K14 hK14 => ?_
        refine wp_region_lit ?_
        refine ls hk rfl rfl rfl (e_move hk rfl _) fun a hk => ?_
        refine la hk rfl (a_call hk rfl rfl (c_fn hk rfl ok118) (c118 x _ (by omega) (by omega)) ?_)
        rintro e w ⟨ad2, c2, rfl, hown2, hE⟩
        refine ⟨_, rfl, fun a hk => ?_⟩
        have hLv := hLv.ext hE
        have hown := own_ext hown hE
        have hRt := hRt.ext hE
        have hRg := hRg.ext hE
        have hB := ext_trans hB hE
        obtain ⟨_, _, hv, _, hR2⟩ := Rd.of_own hown2
        cases hv
        clear hE
        refine ls hk rfl rfl rfl (e_str hk rfl hR2 Tryd.underlying22 Tryd.underlying5 Tryd.underlying9) fun a hk => ?_
        have hk := hk.lift 49 (v := Str (encI x ++ ((List.range 0).map (sigV seed x (digestS (nodeAt seed ht 0) x m))).flatten)) (by simp only [List.range_zero, List.map_nil, List.flatten_nil, List.append_nil]; rfl)
        refine ls hk rfl rfl rfl (e_assign hk rfl _) fun a hk => ?_
        refine lnil (hK14 _ _ ?_)
        refine wp_seq_k fun K15 hK15 => ?_
        refine wp_seq_k fun K16 hK16 => ?_
        refine wp_region_lit ?_
        refine ls hk rfl rfl rfl (e_assign hk rfl _) fun a hk => ?_
        refine lnil (hK16 _ _ ?_)
        refine wp_block ?_
        refine loopN (fun n a w => ∃ j : Nat, n = 68 - j ∧ j ≤ 68 ∧ Kn a 94 [(0, Str seed), (1, I (ht : Nat)), (2, I (x : Nat)), (11, .slice (some ⟨g, 0, none⟩) (ht + 1) co), (12, .slice adg 68 cg), (13, Str (encI x ++ ((List.range (j)).map (sigV seed x (digestS (nodeAt seed ht 0) x m))).flatten)), (14, I j)] ∧ (Ext w0 w) ∧ (LvOk seed ht g sl w) ∧ (w.ownsRow w0.heap.size 69 1 (.slice (some ⟨g, 0, none⟩) (ht + 1) co) (ht + 1) sl) ∧ (Ri w adg 68 cg (digI d))) (68 - 0) ?_ fun n a w hI => ?_
        · exact ⟨0, rfl, by omega, hk.sub _ ⟨rfl, rfl, rfl, rfl, rfl, rfl, rfl, trivial⟩, hB, hLv, hown, hRg⟩
        clear hk hB hLv hown hRg hRt
        obtain ⟨j, rfl, hi_le, hk, hB, hLv, hown, hRg⟩ := hI
        refine wp_seq_k fun K17 hK17 => ?_
        refine wp_seq_k fun K18 hK18 => ?_
        refine wp_region_lit ?_
        refine ls hk rfl rfl rfl (e_move hk rfl _) fun a hk => ?_
        refine ls hk rfl rfl rfl (e_lss hk rfl rfl rfl _) fun a hk => ?_
        refine lnil (hK18 _ _ ?_)
        refine cdB hk rfl (fun hb => ?_) (fun hb => ?_)
        · have hj68 : j < 68 := by have := of_decide_eq_true hb; omega
          have h16 := length_sigV seed x (digestS (nodeAt seed ht 0) x m) j
          have hdl := dig_lt d j
          have hfl := flatF_len (sigV seed x (digestS (nodeAt seed ht 0) x m)) (fun c => length_sigV seed x (digestS (nodeAt seed ht 0) x m) c) j
          have hbl : (encI x ++ ((List.range (j)).map (sigV seed x (digestS (nodeAt seed ht 0) x m))).flatten).length = (encI x).length + 16 * j := by rw [List.length_append, hfl]
          refine wp_skip (hK17 _ _ ?_)
          refine wp_seq_k fun K19 hK19 => ?_
          refine wp_block ?_
          obtain ⟨bg0, og0, rfl, _⟩ := Ri.get hRg j _ (digI_get d j hj68)
          refine wp_region_ok (fun w => Ri w (some ⟨bg0, og0, none⟩) 68 cg (digI d)) [0, 0, 0, 0, 0, 0, 3, 0, 0, 0, 4, 2, 2, 0, 0] mixed ?_
          have hB := hB.drew
          have hLv := hLv.ext (ext_drew w)
          have hown := own_ext hown (ext_drew w)
          have hRg := hRg.ext (ext_drew w)
          have hS : (fun w => Ri w (some ⟨bg0, og0, none⟩) 68 cg (digI d)) w.drew := hRg
          refine d0 0 hk rfl (by kernel_rfl) rfl rfl rfl rfl (fun _ => e_move hk rfl _) fun a hk => ?_
          refine d0 1 hk rfl (by kernel_rfl) rfl rfl rfl rfl (fun _ => e_move hk rfl _) fun a hk => ?_
          refine d0 2 hk rfl (by kernel_rfl) rfl rfl rfl rfl (fun _ => e_move hk rfl _) fun a hk => ?_
          refine d0 3 hk rfl (by kernel_rfl) rfl rfl rfl rfl (fun _ => e_move hk rfl _) fun a hk => ?_
          refine d0 4 hk rfl (by kernel_rfl) rfl rfl rfl rfl (fun _ => e_move hk rfl _) fun a hk => ?_
          refine d0 5 hk rfl (by kernel_rfl) rfl rfl rfl rfl (fun _ => e_idxS1 j hk rfl rfl Tryd.underlying45 sz3 rfl hj68 _) fun a hk => ?_
          refine d3 6 hk rfl (by kernel_rfl) rfl rfl rfl rfl hS (fun w hS => r_load1 (v := I ((dig d j : Nat) : Int)) hk rfl Tryd.underlying3 rfl (ri_cell hS j _ (digI_get d j hj68))) fun a hk => ?_
          refine d0 7 hk rfl (by kernel_rfl) rfl rfl rfl rfl (fun _ => e_move hk rfl _) fun a hk => ?_
          refine d0 8 hk rfl (by kernel_rfl) rfl rfl rfl rfl (fun _ => e_move hk rfl _) fun a hk => ?_
          refine d0 9 hk rfl (by kernel_rfl) rfl rfl rfl rfl (fun _ => e_move hk rfl _) fun a hk => ?_
          refine da4 10 hk rfl (by kernel_rfl) rfl rfl hS (a_call hk rfl rfl (c_fn hk rfl ok119) (c119 seed x j (is64_n (by omega)) (is64_n (by omega)) (by omega) _ (hGR.ext hB)) ?_)
          rintro e w ⟨rfl, hE⟩
          refine ⟨_, rfl, fun a hk => ⟨Rd.ext hS hE, ?_⟩⟩
          have hS := Rd.ext hS hE
          have hLv := hLv.ext hE
          have hown := own_ext hown hE
          have hRg := hRg.ext hE
          have hB := ext_trans hB hE
          clear hE
          refine da 11 hk rfl (by kernel_rfl) rfl rfl (a_call hk rfl rfl (c_fn hk rfl ok88) (c88 x j (is64_n (by omega)) (is64_n (by omega)) 0 (dig d j) (by decide) (by omega) _ (length_startS seed x j) _ (hGR.ext hB)) ?_)
          rintro e w ⟨rfl, hE⟩
          refine ⟨_, rfl, fun a hk => ?_⟩
          have hS := Rd.ext hS hE
          have hLv := hLv.ext hE
          have hown := own_ext hown hE
          have hRg := hRg.ext hE
          have hB := ext_trans hB hE
          have hk := hk.lift 65 (v := D ((sigV seed x (digestS (nodeAt seed ht 0) x m)) j)) (by rw [← hd]; rfl)
          clear hE
          refine da 12 hk rfl (by kernel_rfl) rfl rfl (a_call hk rfl rfl (c_fn hk rfl ok66) (c66 _ _ h16) ?_)
          rintro e w ⟨rfl, hE⟩
          refine ⟨_, rfl, fun a hk => ?_⟩
          have hS := Rd.ext hS hE
          have hLv := hLv.ext hE
          have hown := own_ext hown hE
          have hRg := hRg.ext hE
          have hB := ext_trans hB hE
          clear hE
          refine d0 13 hk rfl (by kernel_rfl) rfl rfl rfl rfl (fun _ => e_sadd (s := (encI x ++ ((List.range (j)).map (sigV seed x (digestS (nodeAt seed ht 0) x m))).flatten)) (u := (sigV seed x (digestS (nodeAt seed ht 0) x m)) j) hk rfl rfl (by rw [hbl, h16]; omega) _) fun a hk => ?_
          rw [txt_succ (encI x) (sigV seed x (digestS (nodeAt seed ht 0) x m)) j] at hk
          refine d0 14 hk rfl (by kernel_rfl) rfl rfl rfl rfl (fun _ => e_assign hk rfl _) fun a hk => ?_
          refine okFin (by kernel_rfl) (hK19 _ _ ?_)
          refine wp_region_lit ?_
          refine ls hk rfl rfl rfl (e_move hk rfl _) fun a hk => ?_
          refine ls hk rfl rfl rfl (e_add (q := ((j + 1 : Nat) : Int)) hk rfl rfl (by rw [i64 (by omega) (by omega)]; omega) _) fun a hk => ?_
          refine ls hk rfl rfl rfl (e_assign hk rfl _) fun a hk => ?_
          refine lnil (show ∃ m : Nat, m < _ ∧ _ from ⟨68 - (j + 1), by omega, j + 1, rfl, by omega, hk.sub _ ⟨rfl, rfl, rfl, rfl, rfl, rfl, rfl, trivial⟩, hB, hLv, hown, hRg⟩)
        · have hj68 : j = 68 := by have := of_decide_eq_false hb; omega
          subst hj68
          have hfl := flatF_len (sigV seed x (digestS (nodeAt seed ht 0) x m)) (fun c => length_sigV seed x (digestS (nodeAt seed ht 0) x m) c) 68
          refine wp_exit (hK15 _ _ ?_)
          refine wp_seq_k fun K20 hK20 => ?_
          refine wp_region_lit ?_
          refine ls hk rfl rfl rfl (e_move hk rfl _) fun a hk => ?_
          refine ls hk rfl rfl rfl (e_assign hk rfl _) fun a hk => ?_
          refine lnil (hK20 _ _ ?_)
          refine wp_seq_k fun K21 hK21 => ?_
          refine wp_seq_k fun K22 hK22 => ?_
          refine wp_region_lit ?_
          refine ls hk rfl rfl rfl (e_assign hk rfl _) fun a hk => ?_
          refine lnil (hK22 _ _ ?_)
          refine wp_block ?_
          refine loopN (fun n a w => ∃ l : Nat, n = ht - l ∧ l ≤ ht ∧ Kn a 94 [(1, I (ht : Nat)), (11, .slice (some ⟨g, 0, none⟩) (ht + 1) co), (13, Str ((encI x ++ ((List.range (68)).map (sigV seed x (digestS (nodeAt seed ht 0) x m))).flatten) ++ ((List.range (l)).map (fun l => nodeAt seed l (sib (x / 2 ^ l)))).flatten)), (15, I ((x / 2 ^ l : Nat) : Int)), (16, I l)] ∧ (Ext w0 w) ∧ (LvOk seed ht g sl w) ∧ (w.ownsRow w0.heap.size 69 1 (.slice (some ⟨g, 0, none⟩) (ht + 1) co) (ht + 1) sl)) (ht - 0) ?_ fun n a w hI => ?_
          · have hk := hk.lift 13 (v := Str ((encI x ++ ((List.range (68)).map (sigV seed x (digestS (nodeAt seed ht 0) x m))).flatten) ++ ((List.range (0)).map (fun l => nodeAt seed l (sib (x / 2 ^ l)))).flatten)) (by simp only [List.range_zero, List.map_nil, List.flatten_nil, List.append_nil]; rfl)
            have hk := hk.lift 15 (v := I ((x / 2 ^ 0 : Nat) : Int)) (by rw [Nat.pow_zero, Nat.div_one]; rfl)
            exact ⟨0, rfl, by omega, hk.sub _ ⟨rfl, rfl, rfl, rfl, rfl, trivial⟩, hB, hLv, hown⟩
          clear hk hB hLv hown hRg
          obtain ⟨l, rfl, hi_le, hk, hB, hLv, hown⟩ := hI
          refine wp_seq_k fun K23 hK23 => ?_
          refine wp_seq_k fun K24 hK24 => ?_
          refine wp_region_lit ?_
          refine ls hk rfl rfl rfl (e_move hk rfl _) fun a hk => ?_
          refine ls hk rfl rfl rfl (e_move hk rfl _) fun a hk => ?_
          refine ls hk rfl rfl rfl (e_lss hk rfl rfl rfl _) fun a hk => ?_
          refine lnil (hK24 _ _ ?_)
          refine cdB hk rfl (fun hb => ?_) (fun hb => ?_)
          · have hln : l < ht := by have := of_decide_eq_true hb; omega
            have hp16 : ((fun l => nodeAt seed l (sib (x / 2 ^ l))) l).length = 16 := length_nodeAt _ _ _
            have hpl := flatF_len (fun l => nodeAt seed l (sib (x / 2 ^ l))) (fun c => length_nodeAt _ _ _) l
            have hbl2 : ((encI x ++ ((List.range (68)).map (sigV seed x (digestS (nodeAt seed ht 0) x m))).flatten) ++ ((List.range (l)).map (fun l => nodeAt seed l (sib (x / 2 ^ l)))).flatten).length = (encI x).length + 16 * 68 + 16 * l := by rw [List.length_append, List.length_append, hfl, hpl]
            have hxd : x / 2 ^ l ≤ x := Nat.div_le_self _ _
            have hsl2 := sib_lt x ht l hxb hln
            obtain ⟨sv2, hsv2⟩ : ∃ sv, sl[l]? = some sv := ⟨_, List.getElem?_eq_getElem (by omega)⟩
            obtain ⟨bv, cv, rfl, hRv⟩ := hLv.rdg l sv2 hsv2
            have hgv := rdg_at2 hRv _ hsl2
            rw [lev_get seed ht l _ hsl2] at hgv
            refine wp_skip (hK23 _ _ ?_)
            refine wp_seq_k fun K25 hK25 => ?_
            refine wp_block ?_
            refine wp_seq_k fun K26 hK26 => ?_
            refine wp_region_lit ?_
            refine ls hk rfl rfl rfl (e_move hk rfl _) fun a hk => ?_
            refine ls hk rfl rfl rfl (e_add (q := ((x / 2 ^ l + 1 : Nat) : Int)) hk rfl rfl (i_succ _ (by omega)) _) fun a hk => ?_
            refine ls hk rfl rfl rfl (e_assign hk rfl _) fun a hk => ?_
            refine lnil (hK26 _ _ ?_)
            refine wp_seq_k fun K27 hK27 => ?_
            have hJ27 : ∀ (a : Act) (w : World), (Kn a 94 [(1, I (ht : Nat)), (11, .slice (some ⟨g, 0, none⟩) (ht + 1) co), (13, Str ((encI x ++ ((List.range (68)).map (sigV seed x (digestS (nodeAt seed ht 0) x m))).flatten) ++ ((List.range (l)).map (fun l => nodeAt seed l (sib (x / 2 ^ l)))).flatten)), (15, I ((x / 2 ^ l : Nat) : Int)), (16, I l), (17, I ((sib (x / 2 ^ l) : Nat) : Int))] ∧ (Ext w0 w) ∧ (LvOk seed ht g sl w) ∧ (w.ownsRow w0.heap.size 69 1 (.slice (some ⟨g, 0, none⟩) (ht + 1) co) (ht + 1) sl) ∧ (w.rangeAt bv (0 + sib (x / 2 ^ l) * 16) ((nodeAt seed l (sib (x / 2 ^ l))).map B))) → K27 a w := by
              clear hk hB hLv hown
              intro a w ⟨hk, hB, hLv, hown, hgv⟩
              refine hK27 _ _ ?_
              refine wp_seq_k fun K28 hK28 => ?_
              refine wp_region_lit ?_
              refine ls hk rfl rfl rfl (e_move hk rfl _) fun a hk => ?_
              refine ls hk rfl rfl rfl (e_move hk rfl _) fun a hk => ?_
              refine ls hk rfl rfl rfl (e_move hk rfl _) fun a hk => ?_
              refine ls hk rfl rfl rfl (e_idxS1 l hk rfl rfl Tryd.underlying86 sz69 rfl (by omega) _) fun a hk => ?_
              refine ls hk rfl rfl rfl (r_load1 hk rfl Tryd.underlying69 rfl (own_cell hown l hsv2)) fun a hk => ?_
              refine ls hk rfl rfl rfl (e_move hk rfl _) fun a hk => ?_
              refine ls hk rfl rfl rfl (e_idxSn (sib (x / 2 ^ l)) hk rfl rfl Tryd.underlying69 sz44 rfl hsl2 _) fun a hk => ?_
              refine ls hk rfl rfl rfl (s_ldR44 (l := nodeAt seed l (sib (x / 2 ^ l))) hk rfl hgv (by simp)) fun a hk => ?_
              refine la hk rfl (a_call hk rfl rfl (c_fn hk rfl ok66) (c66 ((fun l => nodeAt seed l (sib (x / 2 ^ l))) l) _ hp16) ?_)
              rintro e w ⟨rfl, hE⟩
              refine ⟨_, rfl, fun a hk => ?_⟩
              have hLv := hLv.ext hE
              have hown := own_ext hown hE
              have hB := ext_trans hB hE
              clear hE
              refine ls hk rfl rfl rfl (e_sadd (s := ((encI x ++ ((List.range (68)).map (sigV seed x (digestS (nodeAt seed ht 0) x m))).flatten) ++ ((List.range (l)).map (fun l => nodeAt seed l (sib (x / 2 ^ l)))).flatten)) (u := (fun l => nodeAt seed l (sib (x / 2 ^ l))) l) hk rfl rfl (by rw [hbl2, hp16]; omega) _) fun a hk => ?_
              rw [txt_succ (encI x ++ ((List.range (68)).map (sigV seed x (digestS (nodeAt seed ht 0) x m))).flatten) (fun l => nodeAt seed l (sib (x / 2 ^ l))) l] at hk
              refine ls hk rfl rfl rfl (e_assign hk rfl _) fun a hk => ?_
              refine lnil (hK28 _ _ ?_)
              refine wp_region_lit ?_
              refine ls hk rfl rfl rfl (e_move hk rfl _) fun a hk => ?_
              refine ls hk rfl rfl rfl (e_quo (q := ((x / 2 ^ (l + 1) : Nat) : Int)) hk rfl rfl (by decide) (by rw [Nat.pow_succ, ← Nat.div_div_eq_div_mul]; exact i_quoW _ 2 (by omega)) _) fun a hk => ?_
              refine ls hk rfl rfl rfl (e_assign hk rfl _) fun a hk => ?_
              refine lnil (hK25 _ _ ?_)
              refine wp_region_lit ?_
              refine ls hk rfl rfl rfl (e_move hk rfl _) fun a hk => ?_
              refine ls hk rfl rfl rfl (e_add (q := ((l + 1 : Nat) : Int)) hk rfl rfl (by rw [i64 (by omega) (by omega)]; omega) _) fun a hk => ?_
              refine ls hk rfl rfl rfl (e_assign hk rfl _) fun a hk => ?_
              refine lnil (show ∃ m : Nat, m < _ ∧ _ from ⟨ht - (l + 1), by omega, l + 1, rfl, by omega, hk.sub _ ⟨rfl, rfl, rfl, rfl, rfl, trivial⟩, hB, hLv, hown⟩)
            refine wp_seq_k fun K29 hK29 => ?_
            refine wp_region_lit ?_
            refine ls hk rfl rfl rfl (e_move hk rfl _) fun a hk => ?_
            refine ls hk rfl rfl rfl (e_rem (q := ((x / 2 ^ l % 2 : Nat) : Int)) hk rfl rfl (by decide) (i_rem (x / 2 ^ l) 2) _) fun a hk => ?_
            refine ls hk rfl rfl rfl (e_eql hk rfl rfl rfl _) fun a hk => ?_
            refine lnil (hK29 _ _ ?_)
            refine cdB hk rfl (fun hb => ?_) (fun hb => ?_)
            · have hodd : x / 2 ^ l % 2 = 1 := by have := of_decide_eq_true hb; omega
              have hsb : sib (x / 2 ^ l) = x / 2 ^ l - 1 := by unfold sib; rw [if_pos hodd]
              have hpos : 1 ≤ x / 2 ^ l := by
                rcases Nat.eq_zero_or_pos (x / 2 ^ l) with h | h
                · rw [h] at hodd; cases hodd
                · exact h
              refine wp_region_lit ?_
              refine ls hk rfl rfl rfl (e_move hk rfl _) fun a hk => ?_
              refine ls hk rfl rfl rfl (e_sub (q := ((sib (x / 2 ^ l) : Nat) : Int)) hk rfl rfl (by rw [hsb]; exact i_pred _ (by omega) hpos) _) fun a hk => ?_
              refine ls hk rfl rfl rfl (e_assign hk rfl _) fun a hk => ?_
              refine lnil (hJ27 _ _ ⟨hk.sub _ ⟨rfl, rfl, rfl, rfl, rfl, rfl, trivial⟩, hB, hLv, hown, hgv⟩)
            · have hodd : ¬ x / 2 ^ l % 2 = 1 := by have := of_decide_eq_false hb; omega
              have hsb : sib (x / 2 ^ l) = x / 2 ^ l + 1 := by unfold sib; rw [if_neg hodd]
              have hk := hk.lift 17 (v := I ((sib (x / 2 ^ l) : Nat) : Int)) (by rw [hsb]; rfl)
              refine wp_skip (hJ27 _ _ ⟨hk.sub _ ⟨rfl, rfl, rfl, rfl, rfl, rfl, trivial⟩, hB, hLv, hown, hgv⟩)
          · have hln : ht = l := by have := of_decide_eq_false hb; omega
            subst hln
            refine wp_exit (hK21 _ _ ?_)
            refine wp_seq_k fun K30 hK30 => ?_
            refine wp_region_lit ?_
            refine ls hk rfl rfl rfl (e_move hk rfl _) fun a hk => ?_
            refine ls hk rfl rfl rfl (e_assign hk rfl _) fun a hk => ?_
            refine ls hk rfl rfl rfl (e_assign hk rfl _) fun a hk => ?_
            refine lnil (hK30 _ _ ?_)
            refine wp_ret ?_
            exact ret2 hk rfl rfl rfl ⟨by rw [show sigR seed (ht : Int) (x : Int) m = (signS seed ht x m, 0) by unfold sigR; rw [if_neg (by omega), if_neg (by rw [Int.toNat_natCast]; omega), if_neg (by omega)]; rfl, signS, sigVs, sigP, ← List.append_assoc], hB⟩

set_option maxRecDepth 4000 in
set_option maxHeartbeats 1000000 in
theorem c41 (p : List UInt8) (hp : p.length = 16) (h : Int) (m s : List UInt8) (hm : m.length ≤ 1000000) (hs : s.length ≤ 1000000) (w0 : World) (hGR : GR w0) : Calls Tryd.prog 41 #[D p, I h, Str m, Str s] w0 fun e w' => e = .returned (.tuple #[I (verR p h m s).1, I (verR p h m s).2]) ∧ Ext w0 w' := by
  refine start 118 Tryd.func41 rfl rfl rfl fun a hk => ?_
  have hB : Ext w0 w0 := Below.refl _ _
  refine wp_seq_k fun K1 hK1 => ?_
  refine wp_region_lit ?_
  refine la hk rfl (a_box hk rfl rfl fun a w b4 hk G => ?_)
  have hg_b4 : w0.heap.size ≤ b4 := Nat.le_trans hB.size G.ge
  have hB := ext_trans hB G.ext
  have h_b4 := G.at_
  clear G
  refine ls hk rfl rfl rfl (e_assign hk rfl _) fun a hk => ?_
  refine ls hk rfl rfl rfl (e_assign hk rfl _) fun a hk => ?_
  refine lnil (hK1 _ _ ?_)
  refine wp_seq_k fun K2 hK2 => ?_
  refine wp_seq_k fun K3 hK3 => ?_
  rcases (by omega : h < 0 ∨ 0 ≤ h) with hh0 | hh0
  · refine wp_region_lit ?_
    refine ls hk rfl rfl rfl (e_move hk rfl _) fun a hk => ?_
    refine ls hk rfl rfl rfl (e_lss (b := true) hk rfl rfl (decide_eq_true hh0) _) fun a hk => ?_
    refine ls hk rfl rfl rfl (e_move hk rfl _) fun a hk => ?_
    refine lno hk rfl rfl rfl fun a hk => ?_
    refine lno hk rfl rfl rfl fun a hk => ?_
    refine ls hk rfl rfl rfl (e_pickT hk rfl rfl _) fun a hk => ?_
    refine lnil (hK3 _ _ ?_)
    refine cdT hk rfl ?_
    refine wp_seq_k fun K4 hK4 => ?_
    refine wp_region_lit ?_
    refine ls hk rfl rfl rfl (e_assign hk rfl _) fun a hk => ?_
    refine ls hk rfl rfl rfl (e_assign hk rfl _) fun a hk => ?_
    refine lnil (hK4 _ _ ?_)
    refine wp_ret ?_
    simp only [then_ret]
    exact ret2 hk rfl rfl rfl ⟨by rw [verR_bad (by omega)], hB⟩
  · refine wp_region_lit ?_
    refine ls hk rfl rfl rfl (e_move hk rfl _) fun a hk => ?_
    refine ls hk rfl rfl rfl (e_lss (b := false) hk rfl rfl (decide_eq_false (by omega)) _) fun a hk => ?_
    refine ls hk rfl rfl rfl (e_move hk rfl _) fun a hk => ?_
    refine ls hk rfl rfl rfl (e_move hk rfl _) fun a hk => ?_
    refine ls hk rfl rfl rfl (e_gtr hk rfl rfl rfl _) fun a hk => ?_
    refine ls hk rfl rfl rfl (e_pickF hk rfl rfl _) fun a hk => ?_
    refine lnil (hK3 _ _ ?_)
    refine cdB hk rfl (fun hb => ?_) (fun hb => ?_)
    · have hbad : ¬ (0 ≤ h ∧ h ≤ 6) := by have := of_decide_eq_true hb; omega
      refine wp_seq_k fun K5 hK5 => ?_
      refine wp_region_lit ?_
      refine ls hk rfl rfl rfl (e_assign hk rfl _) fun a hk => ?_
      refine ls hk rfl rfl rfl (e_assign hk rfl _) fun a hk => ?_
      refine lnil (hK5 _ _ ?_)
      refine wp_ret ?_
      simp only [then_ret]
      exact ret2 hk rfl rfl rfl ⟨by rw [verR_bad hbad], hB⟩
    · have hgood : h ≤ 6 := by have := of_decide_eq_false hb; omega
      obtain ⟨ht, rfl⟩ : ∃ ht : Nat, h = ht := ⟨h.toNat, by omega⟩
      have hp6 : 2 ^ ht ≤ 2 ^ 6 := Nat.pow_le_pow_right (by decide) (by omega)
      have hn6 : ht ≤ 6 := by omega
      obtain ⟨ix, nn, er, hgi⟩ : ∃ ix nn er, getI s = (ix, nn, er) := ⟨_, _, _, rfl⟩
      have hi64 := getI_64 s
      rw [hgi] at hi64
      simp only at hi64
      refine wp_skip (hK2 _ _ ?_)
      refine wp_seq_k fun K6 hK6 => ?_
      refine wp_seq_k fun K7 hK7 => ?_
      refine wp_region_lit ?_
      refine ls hk rfl rfl rfl (e_move hk rfl _) fun a hk => ?_
      refine ls hk rfl rfl rfl (e_lenStr hk rfl Tryd.underlying9 _) fun a hk => ?_
      refine ls hk rfl rfl rfl (e_gtr (b := false) hk rfl rfl (decide_eq_false (by omega)) _) fun a hk => ?_
      refine lnil (hK7 _ _ ?_)
      refine cdF hk rfl ?_
      refine wp_skip (hK6 _ _ ?_)
      refine wp_seq_k fun K8 hK8 => ?_
      refine wp_region_lit ?_
      refine ls hk rfl rfl rfl (e_move hk rfl _) fun a hk => ?_
      refine la hk rfl (a_bytes hk rfl rfl Tryd.underlying9 Tryd.underlying22 Tryd.underlying5 fun a w b1 c1 hk hgb hE hRb => ?_)
      have h_b4 := ext_at hE h_b4
      have hB := ext_trans hB hE
      clear hE
      refine la hk rfl (a_call hk rfl rfl (c_fn hk rfl ok87) (c87 s (some ⟨b1, 0, none⟩) c1 _ hRb (by omega)) ?_)
      rintro e w ⟨he, hE⟩
      unfold GRes at he
      rw [hgi] at he
      subst he
      refine ⟨_, rfl, fun a hk => ?_⟩
      have h_b4 := ext_at hE h_b4
      have hRb := hRb.ext hE
      have hB := ext_trans hB hE
      clear hE
      refine ls hk rfl rfl rfl (e_move hk rfl _) fun a hk => ?_
      refine ls hk rfl rfl rfl (e_ext hk rfl rfl _) fun a hk => ?_
      refine ls hk rfl rfl rfl (e_ext hk rfl rfl _) fun a hk => ?_
      refine ls hk rfl rfl rfl (e_ext hk rfl rfl _) fun a hk => ?_
      refine ls hk rfl rfl rfl (e_assign hk rfl _) fun a hk => ?_
      refine ls hk rfl rfl rfl (e_assign hk rfl _) fun a hk => ?_
      refine ls hk rfl rfl rfl (e_assign hk rfl _) fun a hk => ?_
      refine lnil (hK8 _ _ ?_)
      refine wp_seq_k fun K9 hK9 => ?_
      refine wp_seq_k fun K10 hK10 => ?_
      refine wp_region_lit ?_
      refine ls hk rfl rfl rfl (e_move hk rfl _) fun a hk => ?_
      refine ls hk rfl rfl rfl (e_neq (b := !decide (er = 0)) hk rfl rfl rfl _) fun a hk => ?_
      refine lnil (hK10 _ _ ?_)
      refine cdB hk rfl (fun hb => ?_) (fun hb => ?_)
      · have her : er ≠ 0 := fun h => by rw [h] at hb; cases hb
        refine wp_seq_k fun K11 hK11 => ?_
        refine wp_region_lit ?_
        refine ls hk rfl rfl rfl (e_move hk rfl _) fun a hk => ?_
        refine ls hk rfl rfl rfl (e_assign hk rfl _) fun a hk => ?_
        refine ls hk rfl rfl rfl (e_assign hk rfl _) fun a hk => ?_
        refine lnil (hK11 _ _ ?_)
        refine wp_ret ?_
        simp only [then_ret]
        exact ret2 hk rfl rfl rfl ⟨by rw [verR_get hn6 hm hgi her], hB⟩
      · have her : er = 0 := Classical.byContradiction fun h => by rw [decide_eq_false h] at hb; cases hb
        subst her
        have hnl := getI_ok_len hgi
        refine wp_skip (hK9 _ _ ?_)
        refine wp_seq_k fun K12 hK12 => ?_
        refine wp_region_lit ?_
        refine ls hk rfl rfl rfl (e_move hk rfl _) fun a hk => ?_
        refine ls hk rfl rfl rfl (e_move hk rfl _) fun a hk => ?_
        refine ls hk rfl rfl rfl (e_slStrFromN nn hk rfl rfl Tryd.underlying9 rfl hnl _) fun a hk => ?_
        refine ls hk rfl rfl rfl (e_assign hk rfl _) fun a hk => ?_
        refine lnil (hK12 _ _ ?_)
        refine wp_seq_k fun K13 hK13 => ?_
        refine wp_seq_k fun K14 hK14 => ?_
        rcases (by omega : ix < 0 ∨ (0 ≤ ix ∧ ix ≥ ((2 ^ ht : Nat) : Int)) ∨ (0 ≤ ix ∧ ¬ ix ≥ ((2 ^ ht : Nat) : Int))) with hx0 | ⟨hx0, hix⟩ | ⟨hx0, hix⟩
        · have hrl0 : (s.drop nn).length = s.length - nn := by simp
          refine wp_region_lit ?_
          refine ls hk rfl rfl rfl (e_move hk rfl _) fun a hk => ?_
          refine ls hk rfl rfl rfl (e_lss (b := true) hk rfl rfl (decide_eq_true (by omega)) _) fun a hk => ?_
          refine ls hk rfl rfl rfl (e_move hk rfl _) fun a hk => ?_
          refine lno hk rfl rfl rfl fun a hk => ?_
          refine lno hk rfl rfl rfl fun a hk => ?_
          refine lno hk rfl rfl rfl fun a hk => ?_
          refine lno hk rfl rfl rfl fun a hk => ?_
          refine ls hk rfl rfl rfl (e_pickT hk rfl rfl _) fun a hk => ?_
          refine ls hk rfl rfl rfl (e_move hk rfl _) fun a hk => ?_
          refine lno hk rfl rfl rfl fun a hk => ?_
          refine lno hk rfl rfl rfl fun a hk => ?_
          refine lno hk rfl rfl rfl fun a hk => ?_
          refine lno hk rfl rfl rfl fun a hk => ?_
          refine lno hk rfl rfl rfl fun a hk => ?_
          refine lno hk rfl rfl rfl fun a hk => ?_
          refine ls hk rfl rfl rfl (e_pickT hk rfl rfl _) fun a hk => ?_
          refine lnil (hK14 _ _ ?_)
          refine cdT hk rfl ?_
          refine wp_seq_k fun K15 hK15 => ?_
          refine wp_region_lit ?_
          refine ls hk rfl rfl rfl (e_assign hk rfl _) fun a hk => ?_
          refine ls hk rfl rfl rfl (e_assign hk rfl _) fun a hk => ?_
          refine lnil (hK15 _ _ ?_)
          refine wp_ret ?_
          simp only [then_ret]
          exact ret2 hk rfl rfl rfl ⟨by rw [verR_form hn6 hm hgi (.inl hx0)], hB⟩
        · have hrl0 : (s.drop nn).length = s.length - nn := by simp
          refine wp_region_lit ?_
          refine ls hk rfl rfl rfl (e_move hk rfl _) fun a hk => ?_
          refine ls hk rfl rfl rfl (e_lss (b := false) hk rfl rfl (decide_eq_false (by omega)) _) fun a hk => ?_
          refine ls hk rfl rfl rfl (e_move hk rfl _) fun a hk => ?_
          refine ls hk rfl rfl rfl (e_move hk rfl _) fun a hk => ?_
          refine ls hk rfl rfl rfl (e_move hk rfl _) fun a hk => ?_
          refine ls hk rfl rfl rfl (e_shl (q := ((2 ^ ht : Nat) : Int)) hk rfl rfl (by omega) (by rw [Int.toNat_natCast, Nat.min_eq_left (by show _ ≤ 64; omega), show (1 : Int) * 2 ^ ht = ((2 ^ ht : Nat) : Int) by push_cast; omega]; exact i64 (Int.le_trans (by decide) (Int.natCast_nonneg (2 ^ ht))) (by omega)) _) fun a hk => ?_
          refine ls hk rfl rfl rfl (e_geq (b := true) hk rfl rfl (decide_eq_true hix) _) fun a hk => ?_
          refine ls hk rfl rfl rfl (e_pickF hk rfl rfl _) fun a hk => ?_
          refine ls hk rfl rfl rfl (e_move hk rfl _) fun a hk => ?_
          refine lno hk rfl rfl rfl fun a hk => ?_
          refine lno hk rfl rfl rfl fun a hk => ?_
          refine lno hk rfl rfl rfl fun a hk => ?_
          refine lno hk rfl rfl rfl fun a hk => ?_
          refine lno hk rfl rfl rfl fun a hk => ?_
          refine lno hk rfl rfl rfl fun a hk => ?_
          refine ls hk rfl rfl rfl (e_pickT hk rfl rfl _) fun a hk => ?_
          refine lnil (hK14 _ _ ?_)
          refine cdT hk rfl ?_
          refine wp_seq_k fun K16 hK16 => ?_
          refine wp_region_lit ?_
          refine ls hk rfl rfl rfl (e_assign hk rfl _) fun a hk => ?_
          refine ls hk rfl rfl rfl (e_assign hk rfl _) fun a hk => ?_
          refine lnil (hK16 _ _ ?_)
          refine wp_ret ?_
          simp only [then_ret]
          exact ret2 hk rfl rfl rfl ⟨by rw [verR_form hn6 hm hgi (.inr (.inl hix))], hB⟩
        · have hrl0 : (s.drop nn).length = s.length - nn := by simp
          refine wp_region_lit ?_
          refine ls hk rfl rfl rfl (e_move hk rfl _) fun a hk => ?_
          refine ls hk rfl rfl rfl (e_lss (b := false) hk rfl rfl (decide_eq_false (by omega)) _) fun a hk => ?_
          refine ls hk rfl rfl rfl (e_move hk rfl _) fun a hk => ?_
          refine ls hk rfl rfl rfl (e_move hk rfl _) fun a hk => ?_
          refine ls hk rfl rfl rfl (e_move hk rfl _) fun a hk => ?_
          refine ls hk rfl rfl rfl (e_shl (q := ((2 ^ ht : Nat) : Int)) hk rfl rfl (by omega) (by rw [Int.toNat_natCast, Nat.min_eq_left (by show _ ≤ 64; omega), show (1 : Int) * 2 ^ ht = ((2 ^ ht : Nat) : Int) by push_cast; omega]; exact i64 (Int.le_trans (by decide) (Int.natCast_nonneg (2 ^ ht))) (by omega)) _) fun a hk => ?_
          refine ls hk rfl rfl rfl (e_geq (b := false) hk rfl rfl (decide_eq_false hix) _) fun a hk => ?_
          refine ls hk rfl rfl rfl (e_pickF hk rfl rfl _) fun a hk => ?_
          refine ls hk rfl rfl rfl (e_move hk rfl _) fun a hk => ?_
          refine ls hk rfl rfl rfl (e_move hk rfl _) fun a hk => ?_
          refine ls hk rfl rfl rfl (e_lenStr hk rfl Tryd.underlying9 _) fun a hk => ?_
          refine ls hk rfl rfl rfl (e_move hk rfl _) fun a hk => ?_
          refine ls hk rfl rfl rfl (e_add (q := ((68 + ht : Nat) : Int)) hk rfl rfl (by rw [i64 (by omega) (by omega)]; omega) _) fun a hk => ?_
          refine ls hk rfl rfl rfl (e_mul (q := (((68 + ht) * 16 : Nat) : Int)) hk rfl rfl (by rw [i64 (by omega) (by omega)]; omega) _) fun a hk => ?_
          refine ls hk rfl rfl rfl (e_neq (b := !decide ((s.drop nn).length = (68 + ht) * 16)) hk rfl rfl (by congr 1; rw [decide_eq_decide]; omega) _) fun a hk => ?_
          refine ls hk rfl rfl rfl (e_pickF hk rfl rfl _) fun a hk => ?_
          refine lnil (hK14 _ _ ?_)
          refine cdB hk rfl (fun hb => ?_) (fun hb => ?_)
          · have hrl : (s.drop nn).length ≠ (68 + ht) * 16 := fun hc => by rw [decide_eq_true hc] at hb; cases hb
            refine wp_seq_k fun K17 hK17 => ?_
            refine wp_region_lit ?_
            refine ls hk rfl rfl rfl (e_assign hk rfl _) fun a hk => ?_
            refine ls hk rfl rfl rfl (e_assign hk rfl _) fun a hk => ?_
            refine lnil (hK17 _ _ ?_)
            refine wp_ret ?_
            simp only [then_ret]
            exact ret2 hk rfl rfl rfl ⟨by rw [verR_form hn6 hm hgi (.inr (.inr hrl))], hB⟩
          · have hrl : (s.drop nn).length = (68 + ht) * 16 := Classical.byContradiction fun hc => by rw [decide_eq_false hc] at hb; cases hb
            refine wp_skip (hK13 _ _ ?_)
            refine wp_seq_k fun K18 hK18 => ?_
            obtain ⟨x, rfl⟩ : ∃ x : Nat, ix = x := ⟨ix.toNat, by omega⟩
            have hx64 : x < 64 := by omega
            obtain ⟨d, hd⟩ : ∃ d, d = digestS p x m := ⟨_, rfl⟩
            have hd16 : d.length = 16 := by rw [hd]; simp
            obtain ⟨r, hr⟩ : ∃ r, r = s.drop nn := ⟨_, rfl⟩
            rw [← hr] at hk hrl hrl0
            have hroot : rootV p ht x m r = climb r x (leafV (verV d x r)) ht := by unfold rootV; rw [hd]
            have hv16 := verF_16 d x r (by omega)
            refine wp_region_lit ?_
            refine ls hk rfl rfl rfl (r_ld44 hk rfl h_b4 hp) fun a hk => ?_
            refine ls hk rfl rfl rfl (e_move hk rfl _) fun a hk => ?_
            refine ls hk rfl rfl rfl (e_move hk rfl _) fun a hk => ?_
            refine la hk rfl (a_call hk rfl rfl (c_fn hk rfl ok64) (c64 p x m _ (hGR.ext hB) hp (is64_n (by omega)) hm) ?_)
            rintro e w ⟨rfl, hE⟩
            refine ⟨_, rfl, fun a hk => ?_⟩
            have h_b4 := ext_at hE h_b4
            have hRb := hRb.ext hE
            have hB := ext_trans hB hE
            rw [← hd] at hk
            clear hE
            refine la hk rfl (a_call hk rfl rfl (c_fn hk rfl ok60) (c60 d hd16 _) ?_)
            rintro e w ⟨⟨adg, cg, rfl, hRg⟩, hE⟩
            refine ⟨_, rfl, fun a hk => ?_⟩
            have h_b4 := ext_at hE h_b4
            have hRb := hRb.ext hE
            have hB := ext_trans hB hE
            clear hE
            refine ls hk rfl rfl rfl (e_assign hk rfl _) fun a hk => ?_
            refine lnil (hK18 _ _ ?_)
            refine wp_seq_k fun K19 hK19 => ?_
            refine wp_region_lit ?_
            refine ls hk rfl rfl rfl (e_assign hk rfl _) fun a hk => ?_
            refine lnil (hK19 _ _ ?_)
            refine wp_seq_k fun K20 hK20 => ?_
            refine wp_seq_k fun K21 hK21 => ?_
            refine wp_region_lit ?_
            refine ls hk rfl rfl rfl (e_assign hk rfl _) fun a hk => ?_
            refine lnil (hK21 _ _ ?_)
            refine wp_block ?_
            refine loopN (fun n a w => ∃ j : Nat, n = 68 - j ∧ j ≤ 68 ∧ Kn a 118 [(1, I (ht : Nat)), (4, .pointer (some ⟨b4, 0, none⟩)), (10, I (x : Nat)), (13, Str r), (14, .slice adg 68 cg), (15, Str ([] ++ ((List.range (j)).map (verF d x r)).flatten)), (16, I j)] ∧ (Ext w0 w) ∧ (w.heap[b4]? = some (.cells (p.map B).toArray 44 (0, 0))) ∧ (Ri w adg 68 cg (digI d))) (68 - 0) ?_ fun n a w hI => ?_
            · exact ⟨0, rfl, by omega, hk.sub _ ⟨rfl, rfl, rfl, rfl, rfl, rfl, rfl, trivial⟩, hB, h_b4, hRg⟩
            clear hk hB h_b4 hRg
            obtain ⟨j, rfl, hi_le, hk, hB, h_b4, hRg⟩ := hI
            refine wp_seq_k fun K22 hK22 => ?_
            refine wp_seq_k fun K23 hK23 => ?_
            refine wp_region_lit ?_
            refine ls hk rfl rfl rfl (e_move hk rfl _) fun a hk => ?_
            refine ls hk rfl rfl rfl (e_lss hk rfl rfl rfl _) fun a hk => ?_
            refine lnil (hK23 _ _ ?_)
            refine cdB hk rfl (fun hb => ?_) (fun hb => ?_)
            · have hj68 : j < 68 := by have := of_decide_eq_true hb; omega
              have hdl := dig_lt d j
              have hfl := flatF_len (verF d x r) hv16 j
              have hbl : ([] ++ ((List.range (j)).map (verF d x r)).flatten).length = 16 * j := by rw [List.nil_append]; exact hfl
              have hvf : verF d x r j = verV d x r j := by unfold verF; rw [if_pos hj68]
              have hck := length_chunk r j (by omega)
              have hvj := hv16 j
              refine wp_skip (hK22 _ _ ?_)
              refine wp_seq_k fun K24 hK24 => ?_
              refine wp_block ?_
              obtain ⟨bg0, og0, rfl, _⟩ := Ri.get hRg j _ (digI_get d j hj68)
              refine wp_region_ok (fun w => Ri w (some ⟨bg0, og0, none⟩) 68 cg (digI d)) [0, 0, 0, 0, 0, 0, 3, 0, 0, 0, 0, 4, 2, 2, 0, 0] mixed ?_
              have hB := hB.drew
              have h_b4 := ext_at (ext_drew w) h_b4
              have hRg := hRg.ext (ext_drew w)
              have hS : (fun w => Ri w (some ⟨bg0, og0, none⟩) 68 cg (digI d)) w.drew := hRg
              refine d0 0 hk rfl (by kernel_rfl) rfl rfl rfl rfl (fun _ => e_move hk rfl _) fun a hk => ?_
              refine d0 1 hk rfl (by kernel_rfl) rfl rfl rfl rfl (fun _ => e_move hk rfl _) fun a hk => ?_
              refine d0 2 hk rfl (by kernel_rfl) rfl rfl rfl rfl (fun _ => e_move hk rfl _) fun a hk => ?_
              refine d0 3 hk rfl (by kernel_rfl) rfl rfl rfl rfl (fun _ => e_move hk rfl _) fun a hk => ?_
              refine d0 4 hk rfl (by kernel_rfl) rfl rfl rfl rfl (fun _ => e_move hk rfl _) fun a hk => ?_
              refine d0 5 hk rfl (by kernel_rfl) rfl rfl rfl rfl (fun _ => e_idxS1 j hk rfl rfl Tryd.underlying45 sz3 rfl hj68 _) fun a hk => ?_
              refine d3 6 hk rfl (by kernel_rfl) rfl rfl rfl rfl hS (fun w hS => r_load1 (v := I ((dig d j : Nat) : Int)) hk rfl Tryd.underlying3 rfl (ri_cell hS j _ (digI_get d j hj68))) fun a hk => ?_
              refine d0 7 hk rfl (by kernel_rfl) rfl rfl rfl rfl (fun _ => e_move hk rfl _) fun a hk => ?_
              refine d0 8 hk rfl (by kernel_rfl) rfl rfl rfl rfl (fun _ => e_move hk rfl _) fun a hk => ?_
              refine d0 9 hk rfl (by kernel_rfl) rfl rfl rfl rfl (fun _ => e_mul (q := ((16 * j : Nat) : Int)) hk rfl rfl (by rw [i64 (by omega) (by omega)]; omega) _) fun a hk => ?_
              refine d0 10 hk rfl (by kernel_rfl) rfl rfl rfl rfl (fun _ => e_slStrFromN (16 * j) hk rfl rfl Tryd.underlying9 rfl (by omega) _) fun a hk => ?_
              refine da4 11 hk rfl (by kernel_rfl) rfl rfl hS (a_call hk rfl rfl (c_fn hk rfl ok89) (c89 (r.drop (16 * j)) _ (by rw [List.length_drop]; omega)) ?_)
              rintro e w ⟨rfl, hE⟩
              refine ⟨_, rfl, fun a hk => ⟨Rd.ext hS hE, ?_⟩⟩
              have hS := Rd.ext hS hE
              have h_b4 := ext_at hE h_b4
              have hRg := hRg.ext hE
              have hB := ext_trans hB hE
              have hk := hk.lift 80 (v := D (chunk r j)) rfl
              clear hE
              refine da 12 hk rfl (by kernel_rfl) rfl rfl (a_call hk rfl rfl (c_fn hk rfl ok88) (c88 x j (is64_n (by omega)) (is64_n (by omega)) (dig d j) 3 (by omega) (by decide) _ hck _ (hGR.ext hB)) ?_)
              rintro e w ⟨rfl, hE⟩
              refine ⟨_, rfl, fun a hk => ?_⟩
              have hS := Rd.ext hS hE
              have h_b4 := ext_at hE h_b4
              have hRg := hRg.ext hE
              have hB := ext_trans hB hE
              have hk := hk.lift 81 (v := D (verF d x r j)) (by rw [hvf]; rfl)
              clear hE
              refine da 13 hk rfl (by kernel_rfl) rfl rfl (a_call hk rfl rfl (c_fn hk rfl ok66) (c66 _ _ hvj) ?_)
              rintro e w ⟨rfl, hE⟩
              refine ⟨_, rfl, fun a hk => ?_⟩
              have hS := Rd.ext hS hE
              have h_b4 := ext_at hE h_b4
              have hRg := hRg.ext hE
              have hB := ext_trans hB hE
              clear hE
              refine d0 14 hk rfl (by kernel_rfl) rfl rfl rfl rfl (fun _ => e_sadd (s := ([] ++ ((List.range (j)).map (verF d x r)).flatten)) (u := verF d x r j) hk rfl rfl (by rw [hbl, hvj]; omega) _) fun a hk => ?_
              rw [txt_succ [] (verF d x r) j] at hk
              refine d0 15 hk rfl (by kernel_rfl) rfl rfl rfl rfl (fun _ => e_assign hk rfl _) fun a hk => ?_
              refine okFin (by kernel_rfl) (hK24 _ _ ?_)
              refine wp_region_lit ?_
              refine ls hk rfl rfl rfl (e_move hk rfl _) fun a hk => ?_
              refine ls hk rfl rfl rfl (e_add (q := ((j + 1 : Nat) : Int)) hk rfl rfl (by rw [i64 (by omega) (by omega)]; omega) _) fun a hk => ?_
              refine ls hk rfl rfl rfl (e_assign hk rfl _) fun a hk => ?_
              refine lnil (show ∃ m : Nat, m < _ ∧ _ from ⟨68 - (j + 1), by omega, j + 1, rfl, by omega, hk.sub _ ⟨rfl, rfl, rfl, rfl, rfl, rfl, rfl, trivial⟩, hB, h_b4, hRg⟩)
            · have hj68 : j = 68 := by have := of_decide_eq_false hb; omega
              subst hj68
              have hfl := flatF_len (verF d x r) hv16 68
              rw [List.nil_append] at hk
              refine wp_exit (hK20 _ _ ?_)
              refine wp_seq_k fun K25 hK25 => ?_
              refine wp_region_lit ?_
              refine ls hk rfl rfl rfl (e_move hk rfl _) fun a hk => ?_
              refine la hk rfl (a_lit (cells := #[Str (((List.range 68).map (verF d x r)).flatten)]) (zv := .string ByteArray.empty) (sz := 1) (by_ := 16) hk rfl rfl Tryd.underlying27 el9 (by decide) (by decide) (lit1s _ rfl _) rfl fun a w bl hk G => ?_)
              have n_b4_bl : b4 ≠ bl := G.ne h_b4
              have k_hRg_bl := rd_keep hRg G
              have hg_bl : w0.heap.size ≤ bl := Nat.le_trans hB.size G.ge
              have h_b4 := ext_at G.ext h_b4
              have hRg := hRg.ext G.ext
              have hB := ext_trans hB G.ext
              have h_bl := G.at_
              clear G
              refine la hk rfl (a_call hk rfl rfl (c_fn hk rfl ok36) (c36 3 [((List.range 68).map (verF d x r)).flatten] _ _ _ (rs_lit1 h_bl) (hGR.ext hB) (by simp) (by intro y hy; rw [List.mem_singleton] at hy; subst hy; omega)) ?_)
              rintro e w ⟨rfl, hE⟩
              refine ⟨_, rfl, fun a hk => ?_⟩
              have h_b4 := ext_at hE h_b4
              have hRg := hRg.ext hE
              have h_bl := ext_at hE h_bl
              have hB := ext_trans hB hE
              clear hE
              refine la hk rfl (a_alloc hk rfl zr44 fun a w b17 hk G => ?_)
              have n_b4_b17 : b4 ≠ b17 := G.ne h_b4
              have k_hRg_b17 := rd_keep hRg G
              have n_bl_b17 : bl ≠ b17 := G.ne h_bl
              have hg_b17 : w0.heap.size ≤ b17 := Nat.le_trans hB.size G.ge
              have h_b4 := ext_at G.ext h_b4
              have hRg := hRg.ext G.ext
              have h_bl := ext_at G.ext h_bl
              have hB := ext_trans hB G.ext
              have h_b17 := G.at_
              clear G
              refine la hk rfl (a_st44 (l := ofD 3 [((List.range 68).map (verF d x r)).flatten]) hk rfl rfl (by simp) h_b17 rfl fun a w hk W => ?_)
              have h_b4 := W.keep n_b4_b17 h_b4
              have hRg := k_hRg_b17 _ _ _ hRg W
              have h_bl := W.keep n_bl_b17 h_bl
              have hB := W.below hB hg_b17
              have h_b17 := W.at_
              clear W
              refine lnil (hK25 _ _ ?_)
              refine wp_seq_k fun K26 hK26 => ?_
              refine wp_region_lit ?_
              refine ls hk rfl rfl rfl (r_ld44 hk rfl h_b17 (by simp)) fun a hk => ?_
              refine la hk rfl (a_call hk rfl rfl (c_fn hk rfl ok66) (c66 (ofD 3 [((List.range 68).map (verF d x r)).flatten]) _ (by simp)) ?_)
              rintro e w ⟨rfl, hE⟩
              refine ⟨_, rfl, fun a hk => ?_⟩
              have h_b4 := ext_at hE h_b4
              have hRg := hRg.ext hE
              have h_bl := ext_at hE h_bl
              have h_b17 := ext_at hE h_b17
              have hB := ext_trans hB hE
              clear hE
              refine la hk rfl (a_lit (cells := #[Str (ofD 3 [((List.range 68).map (verF d x r)).flatten])]) (zv := .string ByteArray.empty) (sz := 1) (by_ := 16) hk rfl rfl Tryd.underlying27 el9 (by decide) (by decide) (lit1s _ rfl _) rfl fun a w bm hk G => ?_)
              have n_b4_bm : b4 ≠ bm := G.ne h_b4
              have k_hRg_bm := rd_keep hRg G
              have n_bl_bm : bl ≠ bm := G.ne h_bl
              have n_b17_bm : b17 ≠ bm := G.ne h_b17
              have hg_bm : w0.heap.size ≤ bm := Nat.le_trans hB.size G.ge
              have h_b4 := ext_at G.ext h_b4
              have hRg := hRg.ext G.ext
              have h_bl := ext_at G.ext h_bl
              have h_b17 := ext_at G.ext h_b17
              have hB := ext_trans hB G.ext
              have h_bm := G.at_
              clear G
              refine la hk rfl (a_call hk rfl rfl (c_fn hk rfl ok36) (c36 1 [ofD 3 [((List.range 68).map (verF d x r)).flatten]] _ _ _ (rs_lit1 h_bm) (hGR.ext hB) (by simp) (by simp)) ?_)
              rintro e w ⟨rfl, hE⟩
              refine ⟨_, rfl, fun a hk => ?_⟩
              have h_b4 := ext_at hE h_b4
              have hRg := hRg.ext hE
              have h_bl := ext_at hE h_bl
              have h_b17 := ext_at hE h_b17
              have h_bm := ext_at hE h_bm
              have hB := ext_trans hB hE
              have hk := hk.lift 90 (v := D (leafV (verV d x r))) (by rw [← verF_eq]; rfl)
              clear hE
              refine la hk rfl (a_alloc hk rfl zr44 fun a w b18 hk G => ?_)
              have n_b4_b18 : b4 ≠ b18 := G.ne h_b4
              have k_hRg_b18 := rd_keep hRg G
              have n_bl_b18 : bl ≠ b18 := G.ne h_bl
              have n_b17_b18 : b17 ≠ b18 := G.ne h_b17
              have n_bm_b18 : bm ≠ b18 := G.ne h_bm
              have hg_b18 : w0.heap.size ≤ b18 := Nat.le_trans hB.size G.ge
              have h_b4 := ext_at G.ext h_b4
              have hRg := hRg.ext G.ext
              have h_bl := ext_at G.ext h_bl
              have h_b17 := ext_at G.ext h_b17
              have h_bm := ext_at G.ext h_bm
              have hB := ext_trans hB G.ext
              have h_b18 := G.at_
              clear G
              refine la hk rfl (a_st44 (l := leafV (verV d x r)) hk rfl rfl (by simp) h_b18 rfl fun a w hk W => ?_)
              have h_b4 := W.keep n_b4_b18 h_b4
              have hRg := k_hRg_b18 _ _ _ hRg W
              have h_bl := W.keep n_bl_b18 h_bl
              have h_b17 := W.keep n_b17_b18 h_b17
              have h_bm := W.keep n_bm_b18 h_bm
              have hB := W.below hB hg_b18
              have h_b18 := W.at_
              clear W
              refine lnil (hK26 _ _ ?_)
              refine wp_seq_k fun K27 hK27 => ?_
              refine wp_region_lit ?_
              refine ls hk rfl rfl rfl (e_move hk rfl _) fun a hk => ?_
              refine ls hk rfl rfl rfl (e_assign hk rfl _) fun a hk => ?_
              refine lnil (hK27 _ _ ?_)
              refine wp_seq_k fun K28 hK28 => ?_
              refine wp_seq_k fun K29 hK29 => ?_
              refine wp_region_lit ?_
              refine ls hk rfl rfl rfl (e_assign hk rfl _) fun a hk => ?_
              refine lnil (hK29 _ _ ?_)
              refine wp_block ?_
              refine loopN (fun n a w => ∃ l : Nat, n = ht - l ∧ l ≤ ht ∧ Kn a 118 [(1, I (ht : Nat)), (4, .pointer (some ⟨b4, 0, none⟩)), (10, I (x : Nat)), (13, Str r), (18, .pointer (some ⟨b18, 0, none⟩)), (19, I ((x / 2 ^ l : Nat) : Int)), (20, I l)] ∧ (Ext w0 w) ∧ (w.heap[b4]? = some (.cells (p.map B).toArray 44 (0, 0))) ∧ (w.heap[b18]? = some (.cells ((climb r x (leafV (verV d x r)) (l)).map B).toArray 44 (0, 0)))) (ht - 0) ?_ fun n a w hI => ?_
              · have hk := hk.lift 19 (v := I ((x / 2 ^ 0 : Nat) : Int)) (by rw [Nat.pow_zero, Nat.div_one]; rfl)
                exact ⟨0, rfl, by omega, hk.sub _ ⟨rfl, rfl, rfl, rfl, rfl, rfl, rfl, trivial⟩, hB, h_b4, h_b18⟩
              clear hk hB h_b4 h_b18 hRg h_b17 h_bm h_bl
              obtain ⟨l, rfl, hi_le, hk, hB, h_b4, h_b18⟩ := hI
              refine wp_seq_k fun K30 hK30 => ?_
              refine wp_seq_k fun K31 hK31 => ?_
              refine wp_region_lit ?_
              refine ls hk rfl rfl rfl (e_move hk rfl _) fun a hk => ?_
              refine ls hk rfl rfl rfl (e_move hk rfl _) fun a hk => ?_
              refine ls hk rfl rfl rfl (e_lss hk rfl rfl rfl _) fun a hk => ?_
              refine lnil (hK31 _ _ ?_)
              refine cdB hk rfl (fun hb => ?_) (fun hb => ?_)
              · have hln : l < ht := by have := of_decide_eq_true hb; omega
                have hxd : x / 2 ^ l ≤ x := Nat.div_le_self _ _
                have hcl := length_climb r x (leafV (verV d x r)) (length_leafV _) l
                have hck := length_chunk r (68 + l) (by omega)
                have hcn := length_climb r x (leafV (verV d x r)) (length_leafV _) (l + 1)
                refine wp_skip (hK30 _ _ ?_)
                refine wp_seq_k fun K32 hK32 => ?_
                refine wp_block ?_
                refine wp_seq_k fun K33 hK33 => ?_
                refine wp_region_lit ?_
                refine ls hk rfl rfl rfl (e_move hk rfl _) fun a hk => ?_
                refine ls hk rfl rfl rfl (e_move hk rfl _) fun a hk => ?_
                refine ls hk rfl rfl rfl (e_add (q := ((68 + l : Nat) : Int)) hk rfl rfl (by rw [i64 (by omega) (by omega)]; omega) _) fun a hk => ?_
                refine ls hk rfl rfl rfl (e_mul (q := ((16 * (68 + l) : Nat) : Int)) hk rfl rfl (by rw [i64 (by omega) (by omega)]; omega) _) fun a hk => ?_
                refine ls hk rfl rfl rfl (e_slStrFromN (16 * (68 + l)) hk rfl rfl Tryd.underlying9 rfl (by omega) _) fun a hk => ?_
                refine la hk rfl (a_call hk rfl rfl (c_fn hk rfl ok89) (c89 (r.drop (16 * (68 + l))) _ (by rw [List.length_drop]; omega)) ?_)
                rintro e w ⟨rfl, hE⟩
                refine ⟨_, rfl, fun a hk => ?_⟩
                have h_b4 := ext_at hE h_b4
                have h_b18 := ext_at hE h_b18
                have hB := ext_trans hB hE
                have hk := hk.lift 102 (v := D (chunk r (68 + l))) rfl
                clear hE
                refine la hk rfl (a_alloc hk rfl zr44 fun a w b21 hk G => ?_)
                have n_b4_b21 : b4 ≠ b21 := G.ne h_b4
                have n_b18_b21 : b18 ≠ b21 := G.ne h_b18
                have hg_b21 : w0.heap.size ≤ b21 := Nat.le_trans hB.size G.ge
                have h_b4 := ext_at G.ext h_b4
                have h_b18 := ext_at G.ext h_b18
                have hB := ext_trans hB G.ext
                have h_b21 := G.at_
                clear G
                refine la hk rfl (a_st44 (l := chunk r (68 + l)) hk rfl rfl hck h_b21 rfl fun a w hk W => ?_)
                have h_b4 := W.keep n_b4_b21 h_b4
                have h_b18 := W.keep n_b18_b21 h_b18
                have hB := W.below hB hg_b21
                have h_b21 := W.at_
                clear W
                refine lnil (hK33 _ _ ?_)
                refine wp_seq_k fun K34 hK34 => ?_
                refine wp_seq_k fun K35 hK35 => ?_
                refine wp_region_lit ?_
                refine ls hk rfl rfl rfl (e_move hk rfl _) fun a hk => ?_
                refine ls hk rfl rfl rfl (e_rem (q := ((x / 2 ^ l % 2 : Nat) : Int)) hk rfl rfl (by decide) (i_rem (x / 2 ^ l) 2) _) fun a hk => ?_
                refine ls hk rfl rfl rfl (e_eql hk rfl rfl rfl _) fun a hk => ?_
                refine lnil (hK35 _ _ ?_)
                refine cdB hk rfl (fun hb => ?_) (fun hb => ?_)
                · have hodd : x / 2 ^ l % 2 = 1 := by have := of_decide_eq_true hb; omega
                  have hce : (climb r x (leafV (verV d x r)) (l + 1)) = nodeS (chunk r (68 + l)) (climb r x (leafV (verV d x r)) (l)) := by
                    show (if _ then _ else _) = _
                    rw [if_pos hodd]
                  refine wp_region_lit ?_
                  refine ls hk rfl rfl rfl (r_ld44 hk rfl h_b21 hck) fun a hk => ?_
                  refine ls hk rfl rfl rfl (r_ld44 hk rfl h_b18 hcl) fun a hk => ?_
                  refine la hk rfl (a_call hk rfl rfl (c_fn hk rfl ok90) (c90 (chunk r (68 + l)) (climb r x (leafV (verV d x r)) (l)) _ (hGR.ext hB) hck hcl) ?_)
                  rintro e w ⟨rfl, hE⟩
                  refine ⟨_, rfl, fun a hk => ?_⟩
                  have h_b4 := ext_at hE h_b4
                  have h_b18 := ext_at hE h_b18
                  have h_b21 := ext_at hE h_b21
                  have hB := ext_trans hB hE
                  rw [← hce] at hk
                  clear hE
                  refine la hk rfl (a_st44 (l := (climb r x (leafV (verV d x r)) (l + 1))) hk rfl rfl hcn h_b18 (by simp [hcl]) fun a w hk W => ?_)
                  have h_b4 := W.keep n_b4_b18 h_b4
                  have h_b21 := W.keep (Ne.symm n_b18_b21) h_b21
                  have hB := W.below hB hg_b18
                  have h_b18 := W.at_
                  clear W
                  refine lnil (hK34 _ _ ?_)
                  refine wp_region_lit ?_
                  refine ls hk rfl rfl rfl (e_move hk rfl _) fun a hk => ?_
                  refine ls hk rfl rfl rfl (e_quo (q := ((x / 2 ^ (l + 1) : Nat) : Int)) hk rfl rfl (by decide) (by rw [Nat.pow_succ, ← Nat.div_div_eq_div_mul]; exact i_quoW _ 2 (by omega)) _) fun a hk => ?_
                  refine ls hk rfl rfl rfl (e_assign hk rfl _) fun a hk => ?_
                  refine lnil (hK32 _ _ ?_)
                  refine wp_region_lit ?_
                  refine ls hk rfl rfl rfl (e_move hk rfl _) fun a hk => ?_
                  refine ls hk rfl rfl rfl (e_add (q := ((l + 1 : Nat) : Int)) hk rfl rfl (by rw [i64 (by omega) (by omega)]; omega) _) fun a hk => ?_
                  refine ls hk rfl rfl rfl (e_assign hk rfl _) fun a hk => ?_
                  refine lnil (show ∃ m : Nat, m < _ ∧ _ from ⟨ht - (l + 1), by omega, l + 1, rfl, by omega, hk.sub _ ⟨rfl, rfl, rfl, rfl, rfl, rfl, rfl, trivial⟩, hB, h_b4, h_b18⟩)
                · have hodd : ¬ x / 2 ^ l % 2 = 1 := by have := of_decide_eq_false hb; omega
                  have hce : (climb r x (leafV (verV d x r)) (l + 1)) = nodeS (climb r x (leafV (verV d x r)) (l)) (chunk r (68 + l)) := by
                    show (if _ then _ else _) = _
                    rw [if_neg hodd]
                  refine wp_region_lit ?_
                  refine ls hk rfl rfl rfl (r_ld44 hk rfl h_b18 hcl) fun a hk => ?_
                  refine ls hk rfl rfl rfl (r_ld44 hk rfl h_b21 hck) fun a hk => ?_
                  refine la hk rfl (a_call hk rfl rfl (c_fn hk rfl ok90) (c90 (climb r x (leafV (verV d x r)) (l)) (chunk r (68 + l)) _ (hGR.ext hB) hcl hck) ?_)
                  rintro e w ⟨rfl, hE⟩
                  refine ⟨_, rfl, fun a hk => ?_⟩
                  have h_b4 := ext_at hE h_b4
                  have h_b18 := ext_at hE h_b18
                  have h_b21 := ext_at hE h_b21
                  have hB := ext_trans hB hE
                  rw [← hce] at hk
                  clear hE
                  refine la hk rfl (a_st44 (l := (climb r x (leafV (verV d x r)) (l + 1))) hk rfl rfl hcn h_b18 (by simp [hcl]) fun a w hk W => ?_)
                  have h_b4 := W.keep n_b4_b18 h_b4
                  have h_b21 := W.keep (Ne.symm n_b18_b21) h_b21
                  have hB := W.below hB hg_b18
                  have h_b18 := W.at_
                  clear W
                  refine lnil (hK34 _ _ ?_)
                  refine wp_region_lit ?_
                  refine ls hk rfl rfl rfl (e_move hk rfl _) fun a hk => ?_
                  refine ls hk rfl rfl rfl (e_quo (q := ((x / 2 ^ (l + 1) : Nat) : Int)) hk rfl rfl (by decide) (by rw [Nat.pow_succ, ← Nat.div_div_eq_div_mul]; exact i_quoW _ 2 (by omega)) _) fun a hk => ?_
                  refine ls hk rfl rfl rfl (e_assign hk rfl _) fun a hk => ?_
                  refine lnil (hK32 _ _ ?_)
                  refine wp_region_lit ?_
                  refine ls hk rfl rfl rfl (e_move hk rfl _) fun a hk => ?_
                  refine ls hk rfl rfl rfl (e_add (q := ((l + 1 : Nat) : Int)) hk rfl rfl (by rw [i64 (by omega) (by omega)]; omega) _) fun a hk => ?_
                  refine ls hk rfl rfl rfl (e_assign hk rfl _) fun a hk => ?_
                  refine lnil (show ∃ m : Nat, m < _ ∧ _ from ⟨ht - (l + 1), by omega, l + 1, rfl, by omega, hk.sub _ ⟨rfl, rfl, rfl, rfl, rfl, rfl, rfl, trivial⟩, hB, h_b4, h_b18⟩)
              · have hln : ht = l := by have := of_decide_eq_false hb; omega
                subst hln
                have hcl := length_climb r x (leafV (verV d x r)) (length_leafV _) ht
                rw [← hroot] at h_b18 hcl
                refine wp_exit (hK28 _ _ ?_)
                refine wp_seq_k fun K36 hK36 => ?_
                refine wp_seq_k fun K37 hK37 => ?_
                refine wp_region_lit ?_
                refine ls hk rfl rfl rfl (r_ld44 hk rfl h_b18 hcl) fun a hk => ?_
                refine ls hk rfl rfl rfl (r_ld44 hk rfl h_b4 hp) fun a hk => ?_
                refine ls hk rfl rfl rfl (e_neA (l := (rootV p ht x m r)) (r := p) hk rfl rfl Tryd.underlying44 Tryd.underlying5 sz5 hcl hp eg44 rfl _) fun a hk => ?_
                refine lnil (hK37 _ _ ?_)
                refine cdB hk rfl (fun hb => ?_) (fun hb => ?_)
                · have hve := verR_end (p := p) (m := m) hn6 hm hgi hix (by rw [← hr]; exact hrl)
                  rw [← hr] at hve
                  have hne : (rootV p ht x m r) ≠ p := fun h => by rw [decide_eq_true h] at hb; cases hb
                  refine wp_seq_k fun K38 hK38 => ?_
                  refine wp_region_lit ?_
                  refine ls hk rfl rfl rfl (e_assign hk rfl _) fun a hk => ?_
                  refine ls hk rfl rfl rfl (e_assign hk rfl _) fun a hk => ?_
                  refine lnil (hK38 _ _ ?_)
                  refine wp_ret ?_
                  simp only [then_ret]
                  exact ret2 hk rfl rfl rfl ⟨by rw [hve, if_pos hne], hB⟩
                · have hve := verR_end (p := p) (m := m) hn6 hm hgi hix (by rw [← hr]; exact hrl)
                  rw [← hr] at hve
                  have heq : (rootV p ht x m r) = p := Classical.byContradiction fun h => by rw [decide_eq_false h] at hb; cases hb
                  refine wp_skip (hK36 _ _ ?_)
                  refine wp_seq_k fun K39 hK39 => ?_
                  refine wp_region_lit ?_
                  refine ls hk rfl rfl rfl (e_move hk rfl _) fun a hk => ?_
                  refine ls hk rfl rfl rfl (e_assign hk rfl _) fun a hk => ?_
                  refine ls hk rfl rfl rfl (e_assign hk rfl _) fun a hk => ?_
                  refine lnil (hK39 _ _ ?_)
                  refine wp_ret ?_
                  exact ret2 hk rfl rfl rfl ⟨by rw [hve, if_neg (fun h => h heq)], hB⟩

end Go.Proofs.YtidfbboalbchiaaDoor

namespace Go.Proofs.YtidfbboalbchiaaDoor
open Go Go.RowKit

/-- The encoding of a small number. -/
def encN (n : Nat) : List Nat := if n = 0 then [128] else if n < 256 then [129, n] else [130, n / 256, n % 256]
def encBN (s : List Nat) : List Nat := fc s.length fun n => encN n ++ s
def ofN {α : Type} (t : Nat) (l : List Nat) (k : List Nat → α) : α := shaN (t :: l) fun o => k (o.take 16)
def kiN : List Nat := List.replicate 32 51 ++ List.replicate 32 54
def koN : List Nat := List.replicate 32 89 ++ List.replicate 32 92
def startN {α : Type} (x c : Nat) (k : List Nat → α) : α :=
  shaN (kiN ++ ([99, 104, 97, 105, 110] ++ (encN 2 ++ (encN x ++ encN c)))) fun l => shaN (koN ++ l) fun o => k (o.take 16)
def stepN {α : Type} (x c t : Nat) (v : List Nat) (k : List Nat → α) : α :=
  ofN 5 (encBN (encN 3 ++ (encN x ++ (encN c ++ encN t))) ++ encBN v) k
def advN {α : Type} (x c f : Nat) : Nat → List Nat → (List Nat → α) → α
  | 0, v, k => k v
  | n + 1, v, k => advN x c f n v fun l => fc (f + n) fun t => stepN x c t l k
def allN {α : Type} (val : Nat → (List Nat → α) → α) : Nat → Nat → List Nat → (List Nat → α) → α
  | 0, _, acc, k => k acc
  | n + 1, c, acc, k => val c fun v => fc (c + 1) fun c' => allN val n c' (acc ++ v) k
def s5 : List UInt8 := List.replicate 32 5
theorem encN_eq : ∀ n, n < 1100 → encN n = nl (encI ((n : Nat) : Int)) := by decide +kernel
theorem nl_app (a b : List UInt8) : nl (a ++ b) = nl a ++ nl b := by simp [nl]
theorem nl_take (a : List UInt8) (n : Nat) : nl (a.take n) = (nl a).take n := by simp [nl, List.map_take]
theorem encBN_eq (s : List UInt8) (h : s.length < 1100) : encBN (nl s) = nl (encB s) := by
  unfold encBN encB
  rw [fc_eq, nl_app, show (nl s).length = s.length by simp [nl], encN_eq _ h]
theorem ofN_eq {α : Type} (t : Nat) (u : UInt8) (l : List UInt8) (hu : u.toNat = t) (k : List Nat → α) : ofN t (nl l) k = k (nl ((sha (u :: l)).take 16)) := by
  unfold ofN
  rw [show t :: nl l = nl (u :: l) by subst hu; rfl, shaN_eq, nl_take]
theorem ki_eq : kiN = nl (key64 s5 54) := by kernel_rfl
theorem ko_eq : koN = nl (key64 s5 92) := by kernel_rfl
theorem startN_eq {α : Type} (x c : Nat) (hx : x < 1100) (hc : c < 1100) (k : List Nat → α) : startN x c k = k (nl (startS s5 x c)) := by
  have e : kiN ++ ([99, 104, 97, 105, 110] ++ (encN 2 ++ (encN x ++ encN c))) = nl (key64 s5 54 ++ (chainB ++ encL [(x : Int), (c : Int)])) := by
    rw [ki_eq, encN_eq 2 (by decide), encN_eq x hx, encN_eq c hc]
    unfold encL
    simp only [nl_app, List.map_cons, List.map_nil, List.flatten_cons, List.flatten_nil, List.append_nil]
    rfl
  unfold startN
  rw [e, shaN_eq, ko_eq, ← nl_app, shaN_eq, ← nl_take]
  rfl
theorem stepN_eq {α : Type} (x c t : Nat) (hx : x < 1100) (hc : c < 1100) (ht : t < 1100) (v : List UInt8) (hv : v.length = 16) (k : List Nat → α) : stepN x c t (nl v) k = k (nl (ofD 5 [encL [(x : Int), (c : Int), (t : Int)], v])) := by
  have e : encN 3 ++ (encN x ++ (encN c ++ encN t)) = nl (encL [(x : Int), (c : Int), (t : Int)]) := by
    rw [encN_eq 3 (by decide), encN_eq x hx, encN_eq c hc, encN_eq t ht]
    unfold encL
    simp only [nl_app, List.map_cons, List.map_nil, List.flatten_cons, List.flatten_nil, List.append_nil]
    rfl
  have hl : (encL [(x : Int), (c : Int), (t : Int)]).length < 1100 := by
    have h1 := length_encI_le (x : Int); have h2 := length_encI_le (c : Int); have h3 := length_encI_le (t : Int); have h4 := length_encI_le (([(x : Int), (c : Int), (t : Int)] : List Int).length : Int)
    unfold encL
    simp only [List.length_append, List.map_cons, List.map_nil, List.flatten_cons, List.flatten_nil, List.length_nil]
    omega
  unfold stepN
  rw [e, encBN_eq _ hl, encBN_eq _ (by omega), ← nl_app, ofN_eq 5 5 _ rfl]
  unfold ofD ofIn
  have hb : byteOf 5 = 5 := by decide
  rw [hb]
  simp only [List.map_cons, List.map_nil, List.flatten_cons, List.flatten_nil, List.append_nil]
theorem advN_eq {α : Type} (x c f : Nat) (hx : x < 1100) (hc : c < 1100) (v : List UInt8) (hv : v.length = 16) : ∀ (n : Nat) (k : List Nat → α), f + n < 1100 → advN x c f n (nl v) k = k (nl (adv x c f n v))
  | 0, _, _ => rfl
  | n + 1, k, h => by
    unfold advN
    rw [advN_eq x c f hx hc v hv n _ (by omega), fc_eq, stepN_eq x c (f + n) hx hc (by omega) _ (length_adv _ _ _ _ _ hv)]
    rfl
theorem allN_eq {α : Type} (val : Nat → (List Nat → α) → α) (F : Nat → List UInt8) (k : List Nat → α) : ∀ (n c : Nat) (acc : List UInt8), (∀ c', c ≤ c' → c' < c + n → ∀ k', val c' k' = k' (nl (F c'))) → allN val n c (nl acc) k = k (nl (acc ++ ((List.range n).map fun i => F (c + i)).flatten))
  | 0, _, acc, _ => by simp [allN]
  | n + 1, c, acc, h => by
    unfold allN
    rw [h c (Nat.le_refl _) (by omega), fc_eq, ← nl_app, allN_eq val F k n (c + 1) _ (fun c' h1 h2 => h c' (by omega) (by omega))]
    have e : ((List.range (n + 1)).map fun i => F (c + i)) = F c :: (List.range n).map fun i => F (c + 1 + i) := by
      rw [List.range_succ_eq_map, List.map_cons, List.map_map]
      congr 1
      apply List.map_congr_left
      intro i _
      show F (c + (i + 1)) = F (c + 1 + i)
      congr 1; omega
    rw [e, List.flatten_cons, List.append_assoc]
/-- 17 values are these bytes. -/
theorem grp_is (val : Nat → (List Nat → Bool) → Bool) (F : Nat → List UInt8) (c : Nat) (v : List UInt8) (hv : ∀ c', c ≤ c' → c' < c + 17 → ∀ k', val c' k' = k' (nl (F c'))) (h : allN val 17 c [] (fun l => eqN l (nl v)) = true) : ((List.range 17).map fun i => F (c + i)).flatten = v := by
  have h2 := allN_eq val F (fun l => eqN l (nl v)) 17 c [] hv
  rw [show nl [] = [] from rfl, h, List.nil_append] at h2
  exact nl_inj (eqN_eq _ _ h2.symm)
theorem all_is (F : Nat → List UInt8) (a b c d : List UInt8) (ha : ((List.range 17).map fun i => F (0 + i)).flatten = a) (hb : ((List.range 17).map fun i => F (17 + i)).flatten = b) (hc : ((List.range 17).map fun i => F (34 + i)).flatten = c) (hd : ((List.range 17).map fun i => F (51 + i)).flatten = d) : ((List.range 68).map F).flatten = a ++ (b ++ (c ++ d)) := by
  have e : ∀ n m : Nat, ((List.range (n + m)).map F).flatten = ((List.range n).map F).flatten ++ ((List.range m).map fun i => F (n + i)).flatten := fun n m => by
    rw [List.range_add, List.map_append, List.flatten_append, List.map_map]; rfl
  rw [show (68 : Nat) = 17 + 17 + 17 + 17 from rfl, e, e, e, ← ha, ← hb, ← hc, ← hd]
  simp only [Nat.zero_add, List.append_assoc]
/-- A digest is these bytes. -/
theorem of_is (n : Int) (ps : List (List UInt8)) (v : List UInt8) (h : shaN (nl (ofIn n ps)) (fun l => eqN (l.take 16) (nl v)) = true) : ofD n ps = v := by
  rw [shaN_eq, ← nl_take] at h
  exact nl_inj (eqN_eq _ _ h)
def lfN (x c : Nat) (k : List Nat → Bool) : Bool := startN x c fun v => advN x c 0 3 v k
theorem lfN_eq (x c : Nat) (hx : x < 1100) (hc : c < 1100) (k : List Nat → Bool) : lfN x c k = k (nl (adv x c 0 3 (startS s5 x c))) := by
  unfold lfN
  rw [startN_eq x c hx hc, advN_eq x c 0 hx hc _ (by simp) 3 _ (by decide)]

def dmD : List Nat := [2, 1, 3, 1, 3, 1, 0, 2, 3, 3, 1, 3, 0, 3, 0, 2, 1, 0, 2, 3, 3, 2, 1, 0, 3, 2, 3, 1, 3, 2, 0, 3, 1, 3, 0, 2, 2, 3, 3, 0, 3, 0, 0, 1, 1, 3, 3, 0, 1, 0, 0, 3, 3, 1, 2, 3, 0, 3, 0, 0, 1, 0, 1, 1, 1, 1, 2, 3]
def dnD : List Nat := [2, 1, 2, 0, 0, 0, 1, 2, 2, 0, 2, 0, 0, 0, 3, 0, 1, 1, 1, 3, 2, 0, 1, 2, 0, 2, 0, 1, 3, 2, 2, 1, 0, 0, 1, 0, 1, 2, 1, 3, 1, 0, 1, 0, 3, 3, 2, 1, 1, 3, 0, 1, 3, 1, 3, 1, 1, 0, 3, 2, 3, 0, 0, 2, 1, 3, 0, 0]
def dmL : List UInt8 := [157, 210, 247, 50, 75, 228, 237, 227, 114, 188, 193, 124, 67, 219, 48, 69]
def dnL : List UInt8 := [152, 6, 136, 12, 87, 134, 33, 233, 4, 103, 68, 249, 113, 221, 78, 194]
theorem dm_dig : ∀ c, c < 68 → dig dmL c = dmD.getD c 0 := by decide +kernel
theorem dn_dig : ∀ c, c < 68 → dig dnL c = dnD.getD c 0 := by decide +kernel
def vfN (c : Nat) (k : List Nat → Bool) : Bool := startN 1 c fun v => advN 1 c 0 (dmD.getD c 0) v fun u => advN 1 c (dnD.getD c 0) (3 - dnD.getD c 0) u k
def vF (c : Nat) : List UInt8 := adv 1 c (dig dnL c) (3 - dig dnL c) (sigV s5 1 dmL c)
theorem vfN_eq (c : Nat) (hc : c < 68) (k : List Nat → Bool) : vfN c k = k (nl (vF c)) := by
  unfold vfN vF sigV
  have h1 := dig_lt dmL c
  have h2 := dig_lt dnL c
  rw [← dm_dig c hc, ← dn_dig c hc, startN_eq 1 c (by decide) (by omega), advN_eq 1 c 0 (by decide) (by omega) _ (by simp) _ _ (by omega), advN_eq 1 c _ (by decide) (by omega) _ (length_adv _ _ _ _ _ (by simp)) _ _ (by omega)]
  rfl

def aB0 : List UInt8 := [98, 205, 55, 240, 225, 6, 128, 77, 209, 206, 159, 81, 79, 133, 255, 41, 152, 115, 135, 163, 109, 136, 231, 57, 244, 171, 217, 50, 230, 194, 40, 62, 231, 118, 190, 69, 99, 247, 99, 225, 76, 62, 17, 217, 46, 249, 128, 91, 89, 145, 232, 95, 253, 15, 30, 178, 116, 91, 156, 166, 49, 236, 227, 108, 56, 164, 98, 85, 210, 55, 179, 123, 188, 132, 167, 8, 138, 114, 153, 148, 65, 212, 235, 150, 3, 176, 214, 202, 73, 129, 247, 47, 100, 239, 90, 99, 202, 4, 47, 151, 171, 66, 60, 151, 43, 100, 135, 164, 139, 33, 221, 176, 104, 216, 22, 195, 117, 15, 82, 208, 114, 127, 54, 92, 160, 217, 239, 202, 141, 232, 0, 232, 116, 164, 156, 3, 164, 131, 191, 183, 196, 46, 119, 207, 77, 239, 21, 57, 167, 128, 237, 251, 79, 21, 7, 131, 146, 137, 25, 139, 90, 26, 192, 43, 180, 19, 2, 201, 105, 200, 121, 191, 177, 89, 234, 74, 105, 1, 100, 39, 150, 121, 238, 236, 171, 12, 104, 207, 201, 32, 208, 74, 22, 88, 71, 226, 41, 66, 80, 207, 222, 203, 136, 123, 237, 246, 86, 248, 83, 119, 251, 120, 201, 167, 176, 254, 193, 71, 121, 168, 109, 91, 249, 53, 15, 148, 79, 70, 117, 217, 251, 179, 79, 211, 214, 57, 19, 7, 193, 134, 157, 91, 30, 90, 109, 83, 120, 255, 73, 112, 112, 64, 114, 169, 3, 46, 148, 129, 198, 178, 103, 128, 209, 250, 230, 29, 147, 102, 79, 60, 103, 190]
set_option maxRecDepth 100000 in
theorem aG0 : ((List.range 17).map fun i => (fun c : Nat => adv ((0 : Nat) : Int) c 0 3 (startS s5 ((0 : Nat) : Int) c)) (0 + i)).flatten = aB0 := grp_is (lfN 0) (fun c : Nat => adv ((0 : Nat) : Int) c 0 3 (startS s5 ((0 : Nat) : Int) c)) 0 _ (fun c h1 h2 k => lfN_eq 0 c (by decide) (by omega) k) (by kernel_rfl)
def aB1 : List UInt8 := [105, 80, 3, 132, 121, 111, 185, 8, 74, 213, 231, 62, 249, 121, 65, 138, 18, 77, 105, 16, 102, 125, 35, 179, 93, 218, 120, 247, 83, 177, 202, 167, 235, 177, 70, 154, 58, 231, 121, 127, 125, 169, 8, 64, 137, 221, 239, 163, 170, 149, 212, 158, 60, 115, 75, 248, 130, 185, 98, 164, 44, 101, 208, 167, 53, 1, 94, 145, 46, 234, 102, 53, 162, 202, 126, 105, 236, 45, 100, 184, 233, 148, 37, 157, 254, 162, 76, 11, 254, 30, 35, 71, 178, 58, 241, 21, 4, 107, 94, 76, 236, 197, 182, 226, 71, 58, 18, 35, 32, 75, 209, 190, 133, 161, 223, 32, 201, 237, 118, 238, 86, 172, 23, 142, 224, 209, 181, 218, 96, 129, 207, 173, 168, 63, 195, 195, 145, 33, 180, 201, 146, 112, 255, 43, 148, 253, 75, 247, 115, 174, 77, 44, 247, 249, 175, 182, 38, 36, 71, 234, 127, 248, 18, 141, 249, 187, 48, 38, 178, 233, 1, 174, 65, 191, 67, 109, 114, 208, 75, 21, 253, 224, 255, 35, 82, 16, 138, 121, 177, 184, 218, 192, 53, 161, 14, 143, 223, 28, 228, 221, 197, 73, 163, 140, 193, 178, 19, 224, 233, 53, 178, 40, 29, 185, 47, 172, 145, 85, 69, 201, 213, 30, 240, 190, 20, 64, 93, 4, 192, 224, 159, 212, 78, 114, 75, 137, 119, 107, 53, 65, 17, 81, 52, 93, 175, 157, 75, 142, 201, 212, 235, 107, 214, 139, 248, 85, 47, 32, 143, 68, 104, 252, 148, 168, 153, 20, 59, 250, 76, 113, 182, 40]
set_option maxRecDepth 100000 in
theorem aG1 : ((List.range 17).map fun i => (fun c : Nat => adv ((0 : Nat) : Int) c 0 3 (startS s5 ((0 : Nat) : Int) c)) (17 + i)).flatten = aB1 := grp_is (lfN 0) (fun c : Nat => adv ((0 : Nat) : Int) c 0 3 (startS s5 ((0 : Nat) : Int) c)) 17 _ (fun c h1 h2 k => lfN_eq 0 c (by decide) (by omega) k) (by kernel_rfl)
def aB2 : List UInt8 := [213, 166, 179, 101, 209, 65, 190, 255, 229, 22, 72, 85, 15, 98, 107, 108, 20, 56, 228, 40, 169, 109, 70, 210, 153, 160, 59, 214, 5, 59, 222, 221, 122, 20, 178, 206, 223, 21, 231, 208, 138, 252, 66, 192, 125, 121, 89, 67, 130, 12, 92, 226, 15, 131, 189, 112, 183, 214, 139, 227, 88, 247, 241, 52, 163, 112, 19, 161, 23, 10, 53, 61, 163, 36, 139, 175, 76, 129, 237, 72, 221, 211, 173, 82, 187, 223, 154, 138, 229, 62, 99, 78, 67, 121, 61, 46, 217, 174, 166, 224, 1, 236, 207, 75, 182, 36, 16, 74, 9, 89, 114, 125, 197, 144, 25, 191, 249, 14, 255, 204, 240, 182, 188, 108, 99, 131, 226, 110, 118, 44, 174, 251, 37, 95, 168, 241, 7, 138, 137, 20, 58, 230, 50, 131, 0, 74, 84, 82, 92, 195, 221, 188, 244, 189, 181, 118, 241, 49, 135, 127, 0, 61, 199, 218, 219, 46, 191, 18, 117, 52, 183, 69, 190, 231, 6, 107, 92, 20, 5, 87, 120, 105, 107, 67, 160, 210, 251, 173, 170, 75, 94, 26, 252, 13, 32, 202, 73, 97, 49, 17, 2, 163, 41, 239, 162, 192, 91, 37, 155, 52, 145, 50, 48, 171, 186, 156, 15, 109, 45, 241, 198, 137, 8, 18, 185, 105, 247, 115, 57, 0, 238, 221, 39, 102, 34, 89, 194, 100, 245, 92, 235, 43, 51, 188, 8, 34, 159, 58, 165, 112, 44, 170, 47, 234, 237, 5, 145, 172, 246, 51, 53, 145, 38, 183, 219, 242, 133, 216, 162, 63, 195, 16]
set_option maxRecDepth 100000 in
theorem aG2 : ((List.range 17).map fun i => (fun c : Nat => adv ((0 : Nat) : Int) c 0 3 (startS s5 ((0 : Nat) : Int) c)) (34 + i)).flatten = aB2 := grp_is (lfN 0) (fun c : Nat => adv ((0 : Nat) : Int) c 0 3 (startS s5 ((0 : Nat) : Int) c)) 34 _ (fun c h1 h2 k => lfN_eq 0 c (by decide) (by omega) k) (by kernel_rfl)
def aB3 : List UInt8 := [233, 190, 56, 206, 147, 240, 53, 247, 207, 232, 134, 235, 8, 103, 149, 163, 189, 229, 76, 22, 161, 171, 211, 115, 47, 17, 10, 43, 59, 86, 131, 147, 187, 124, 25, 71, 70, 189, 178, 139, 235, 97, 53, 169, 248, 13, 60, 125, 223, 187, 40, 241, 132, 126, 76, 185, 126, 152, 113, 139, 59, 13, 128, 118, 116, 18, 239, 167, 43, 27, 152, 129, 189, 178, 151, 7, 6, 125, 140, 98, 3, 109, 152, 27, 85, 31, 192, 163, 143, 253, 239, 43, 103, 221, 139, 131, 85, 194, 78, 181, 166, 111, 28, 148, 40, 64, 151, 248, 244, 154, 92, 128, 101, 248, 140, 182, 18, 0, 239, 137, 101, 156, 78, 230, 58, 184, 20, 145, 53, 148, 159, 241, 79, 147, 58, 214, 0, 6, 164, 122, 138, 24, 94, 192, 52, 187, 102, 116, 113, 122, 150, 54, 205, 159, 201, 10, 177, 35, 82, 56, 4, 43, 227, 157, 234, 133, 130, 20, 150, 252, 152, 249, 97, 14, 82, 154, 51, 242, 125, 41, 174, 89, 93, 101, 45, 224, 88, 112, 203, 202, 132, 112, 157, 85, 145, 203, 38, 194, 34, 181, 24, 164, 65, 129, 141, 33, 157, 33, 28, 183, 13, 84, 51, 252, 143, 129, 29, 86, 188, 219, 217, 78, 171, 46, 237, 117, 188, 160, 154, 79, 105, 25, 103, 226, 90, 55, 26, 59, 235, 216, 205, 134, 240, 11, 221, 120, 155, 144, 202, 122, 47, 54, 44, 146, 198, 206, 48, 64, 27, 182, 61, 90, 180, 98, 121, 135, 137, 154, 143, 216, 148, 171]
set_option maxRecDepth 100000 in
theorem aG3 : ((List.range 17).map fun i => (fun c : Nat => adv ((0 : Nat) : Int) c 0 3 (startS s5 ((0 : Nat) : Int) c)) (51 + i)).flatten = aB3 := grp_is (lfN 0) (fun c : Nat => adv ((0 : Nat) : Int) c 0 3 (startS s5 ((0 : Nat) : Int) c)) 51 _ (fun c h1 h2 k => lfN_eq 0 c (by decide) (by omega) k) (by kernel_rfl)
def aK : List UInt8 := [113, 236, 77, 101, 228, 230, 43, 174, 78, 55, 41, 20, 207, 56, 172, 72]
def aL : List UInt8 := [57, 13, 44, 11, 124, 241, 52, 202, 78, 170, 151, 43, 111, 6, 194, 91]
set_option maxRecDepth 100000 in
theorem aK_is : ofD 3 [aB0 ++ (aB1 ++ (aB2 ++ aB3))] = aK := of_is _ _ _ (by kernel_rfl)
theorem aL_is : ofD 1 [aK] = aL := of_is _ _ _ (by kernel_rfl)
theorem a_leaf : leafV (fun c : Nat => adv ((0 : Nat) : Int) c 0 3 (startS s5 ((0 : Nat) : Int) c)) = aL := by
  unfold leafV
  rw [all_is (fun c : Nat => adv ((0 : Nat) : Int) c 0 3 (startS s5 ((0 : Nat) : Int) c)) _ _ _ _ aG0 aG1 aG2 aG3, aK_is, aL_is]
def bB0 : List UInt8 := [68, 150, 91, 54, 15, 216, 32, 179, 230, 101, 102, 23, 172, 169, 47, 3, 12, 17, 147, 32, 192, 8, 104, 5, 76, 251, 131, 173, 158, 30, 26, 105, 175, 6, 219, 118, 55, 238, 9, 111, 132, 199, 78, 53, 28, 71, 254, 120, 135, 12, 212, 49, 144, 44, 182, 158, 61, 95, 20, 250, 118, 160, 20, 15, 64, 147, 204, 88, 19, 163, 79, 106, 183, 11, 178, 247, 27, 40, 81, 16, 157, 9, 148, 6, 39, 14, 31, 196, 167, 157, 35, 134, 108, 130, 245, 184, 42, 73, 231, 86, 57, 55, 235, 4, 111, 105, 19, 19, 76, 79, 113, 167, 246, 152, 147, 86, 204, 124, 171, 158, 23, 131, 121, 55, 37, 94, 62, 192, 21, 181, 211, 203, 101, 219, 10, 92, 181, 238, 81, 110, 11, 117, 33, 210, 109, 60, 50, 217, 249, 121, 202, 171, 10, 187, 88, 43, 244, 192, 14, 210, 139, 57, 199, 95, 88, 128, 253, 4, 52, 80, 30, 10, 12, 72, 3, 47, 57, 196, 37, 180, 53, 83, 63, 183, 85, 195, 197, 61, 33, 246, 232, 255, 122, 152, 51, 82, 227, 43, 115, 65, 156, 220, 225, 212, 218, 36, 67, 66, 162, 1, 188, 190, 147, 233, 37, 115, 153, 74, 184, 99, 17, 38, 28, 78, 117, 33, 37, 14, 20, 102, 213, 127, 103, 60, 239, 44, 125, 106, 151, 141, 36, 55, 25, 158, 230, 113, 18, 220, 155, 230, 149, 227, 79, 186, 128, 234, 41, 34, 142, 49, 98, 5, 198, 234, 32, 127, 200, 64, 231, 165, 14, 177]
set_option maxRecDepth 100000 in
theorem bG0 : ((List.range 17).map fun i => (fun c : Nat => adv ((1 : Nat) : Int) c 0 3 (startS s5 ((1 : Nat) : Int) c)) (0 + i)).flatten = bB0 := grp_is (lfN 1) (fun c : Nat => adv ((1 : Nat) : Int) c 0 3 (startS s5 ((1 : Nat) : Int) c)) 0 _ (fun c h1 h2 k => lfN_eq 1 c (by decide) (by omega) k) (by kernel_rfl)
def bB1 : List UInt8 := [114, 54, 211, 80, 63, 150, 45, 44, 150, 93, 60, 115, 170, 103, 50, 244, 34, 14, 233, 225, 60, 82, 77, 164, 104, 251, 189, 103, 114, 141, 219, 33, 234, 197, 194, 202, 5, 48, 64, 165, 142, 226, 222, 140, 139, 90, 73, 191, 185, 229, 95, 118, 31, 142, 58, 16, 0, 250, 13, 197, 48, 103, 147, 150, 25, 119, 100, 27, 250, 243, 9, 211, 108, 56, 108, 136, 10, 172, 176, 255, 190, 159, 159, 194, 99, 169, 217, 71, 110, 104, 68, 185, 236, 15, 16, 154, 43, 22, 60, 195, 254, 41, 75, 8, 30, 75, 69, 116, 60, 33, 23, 7, 140, 23, 163, 217, 136, 104, 48, 234, 119, 136, 131, 5, 248, 129, 138, 88, 170, 41, 9, 217, 110, 61, 176, 12, 222, 254, 92, 102, 165, 10, 153, 237, 4, 107, 92, 112, 80, 230, 93, 176, 221, 14, 149, 252, 217, 129, 78, 185, 88, 29, 166, 59, 120, 53, 63, 225, 46, 237, 213, 198, 148, 128, 180, 73, 105, 155, 217, 1, 66, 1, 238, 110, 73, 242, 41, 216, 239, 79, 123, 86, 133, 81, 188, 169, 108, 18, 7, 114, 223, 218, 133, 252, 7, 13, 107, 124, 202, 84, 54, 4, 30, 200, 231, 73, 23, 121, 216, 218, 26, 196, 38, 20, 247, 238, 4, 182, 224, 27, 164, 51, 178, 182, 91, 251, 11, 219, 56, 211, 101, 49, 234, 160, 61, 235, 207, 221, 28, 39, 112, 163, 133, 84, 142, 152, 85, 161, 166, 206, 92, 57, 11, 210, 44, 225, 229, 106, 67, 90, 253, 153]
set_option maxRecDepth 100000 in
theorem bG1 : ((List.range 17).map fun i => (fun c : Nat => adv ((1 : Nat) : Int) c 0 3 (startS s5 ((1 : Nat) : Int) c)) (17 + i)).flatten = bB1 := grp_is (lfN 1) (fun c : Nat => adv ((1 : Nat) : Int) c 0 3 (startS s5 ((1 : Nat) : Int) c)) 17 _ (fun c h1 h2 k => lfN_eq 1 c (by decide) (by omega) k) (by kernel_rfl)
def bB2 : List UInt8 := [155, 221, 213, 50, 178, 138, 138, 109, 228, 101, 112, 183, 0, 27, 102, 224, 115, 27, 207, 82, 143, 83, 94, 43, 207, 14, 70, 0, 114, 129, 23, 5, 254, 119, 251, 121, 149, 3, 194, 205, 137, 22, 132, 235, 105, 197, 114, 89, 135, 252, 137, 92, 180, 129, 102, 233, 162, 142, 46, 102, 72, 144, 181, 4, 37, 179, 74, 185, 213, 232, 71, 249, 73, 18, 108, 218, 152, 195, 44, 120, 185, 194, 160, 46, 134, 53, 92, 236, 35, 133, 250, 252, 109, 245, 62, 241, 94, 182, 111, 84, 14, 121, 227, 183, 149, 210, 180, 182, 231, 121, 205, 133, 181, 138, 180, 238, 20, 158, 184, 49, 94, 140, 47, 116, 198, 38, 195, 63, 202, 152, 33, 107, 82, 127, 35, 193, 225, 45, 191, 65, 189, 223, 222, 87, 106, 53, 164, 185, 91, 99, 119, 82, 105, 214, 112, 209, 102, 104, 228, 47, 15, 247, 235, 130, 150, 235, 118, 134, 161, 108, 127, 203, 45, 208, 43, 88, 141, 197, 195, 14, 253, 81, 201, 16, 43, 49, 254, 0, 250, 202, 62, 5, 117, 120, 204, 4, 124, 81, 227, 70, 156, 125, 42, 217, 44, 57, 240, 45, 84, 52, 184, 72, 53, 162, 120, 239, 50, 142, 21, 40, 187, 33, 55, 152, 161, 227, 240, 24, 74, 243, 7, 249, 93, 147, 194, 14, 48, 74, 47, 92, 206, 227, 14, 254, 101, 174, 98, 127, 230, 129, 135, 89, 86, 21, 217, 115, 82, 234, 10, 250, 137, 66, 238, 139, 144, 181, 28, 156, 123, 186, 109, 142]
set_option maxRecDepth 100000 in
theorem bG2 : ((List.range 17).map fun i => (fun c : Nat => adv ((1 : Nat) : Int) c 0 3 (startS s5 ((1 : Nat) : Int) c)) (34 + i)).flatten = bB2 := grp_is (lfN 1) (fun c : Nat => adv ((1 : Nat) : Int) c 0 3 (startS s5 ((1 : Nat) : Int) c)) 34 _ (fun c h1 h2 k => lfN_eq 1 c (by decide) (by omega) k) (by kernel_rfl)
def bB3 : List UInt8 := [38, 92, 198, 161, 139, 143, 188, 47, 228, 141, 220, 254, 86, 173, 129, 94, 21, 221, 162, 189, 24, 165, 97, 30, 102, 226, 94, 175, 29, 198, 31, 17, 70, 141, 27, 99, 132, 50, 10, 10, 110, 5, 219, 223, 99, 241, 235, 28, 166, 87, 116, 156, 213, 221, 157, 5, 143, 166, 104, 194, 12, 216, 96, 119, 101, 39, 102, 135, 9, 202, 157, 226, 183, 53, 227, 202, 39, 69, 63, 18, 104, 82, 195, 212, 193, 50, 252, 51, 77, 29, 179, 84, 90, 202, 25, 222, 84, 55, 93, 189, 9, 48, 85, 113, 29, 109, 60, 40, 5, 254, 47, 89, 146, 104, 161, 38, 42, 25, 220, 210, 191, 145, 246, 17, 18, 56, 152, 182, 143, 84, 225, 64, 219, 157, 216, 206, 70, 152, 238, 246, 140, 48, 150, 16, 224, 130, 232, 179, 3, 72, 252, 160, 242, 202, 110, 159, 213, 182, 171, 151, 232, 166, 129, 232, 85, 45, 42, 56, 110, 205, 138, 253, 194, 117, 232, 132, 176, 201, 164, 148, 48, 68, 202, 75, 27, 24, 104, 7, 240, 242, 64, 55, 209, 40, 103, 71, 196, 180, 112, 103, 198, 252, 71, 143, 124, 218, 13, 127, 133, 201, 54, 82, 41, 58, 223, 173, 159, 252, 88, 27, 187, 39, 163, 239, 97, 111, 225, 216, 197, 36, 236, 0, 148, 130, 0, 18, 210, 250, 69, 185, 230, 41, 153, 35, 203, 149, 199, 41, 166, 12, 142, 219, 248, 46, 253, 245, 130, 46, 72, 197, 242, 50, 74, 94, 87, 5, 223, 229, 92, 117, 251, 92]
set_option maxRecDepth 100000 in
theorem bG3 : ((List.range 17).map fun i => (fun c : Nat => adv ((1 : Nat) : Int) c 0 3 (startS s5 ((1 : Nat) : Int) c)) (51 + i)).flatten = bB3 := grp_is (lfN 1) (fun c : Nat => adv ((1 : Nat) : Int) c 0 3 (startS s5 ((1 : Nat) : Int) c)) 51 _ (fun c h1 h2 k => lfN_eq 1 c (by decide) (by omega) k) (by kernel_rfl)
def bK : List UInt8 := [81, 59, 108, 60, 165, 211, 10, 253, 195, 118, 38, 89, 234, 115, 135, 122]
def bL : List UInt8 := [246, 238, 40, 44, 203, 116, 193, 183, 28, 127, 28, 224, 102, 243, 193, 36]
set_option maxRecDepth 100000 in
theorem bK_is : ofD 3 [bB0 ++ (bB1 ++ (bB2 ++ bB3))] = bK := of_is _ _ _ (by kernel_rfl)
theorem bL_is : ofD 1 [bK] = bL := of_is _ _ _ (by kernel_rfl)
theorem b_leaf : leafV (fun c : Nat => adv ((1 : Nat) : Int) c 0 3 (startS s5 ((1 : Nat) : Int) c)) = bL := by
  unfold leafV
  rw [all_is (fun c : Nat => adv ((1 : Nat) : Int) c 0 3 (startS s5 ((1 : Nat) : Int) c)) _ _ _ _ bG0 bG1 bG2 bG3, bK_is, bL_is]
def vB0 : List UInt8 := [68, 150, 91, 54, 15, 216, 32, 179, 230, 101, 102, 23, 172, 169, 47, 3, 12, 17, 147, 32, 192, 8, 104, 5, 76, 251, 131, 173, 158, 30, 26, 105, 161, 47, 48, 23, 33, 18, 239, 227, 239, 136, 201, 128, 158, 104, 26, 177, 84, 69, 190, 88, 114, 32, 176, 212, 75, 255, 252, 252, 125, 235, 220, 82, 115, 8, 169, 154, 121, 189, 146, 94, 224, 209, 31, 136, 59, 191, 64, 166, 73, 163, 13, 125, 95, 73, 217, 56, 166, 88, 244, 39, 119, 135, 65, 241, 174, 90, 164, 93, 31, 201, 84, 172, 243, 20, 235, 139, 108, 237, 58, 215, 246, 152, 147, 86, 204, 124, 171, 158, 23, 131, 121, 55, 37, 94, 62, 192, 247, 161, 130, 108, 15, 228, 238, 82, 140, 104, 244, 251, 136, 108, 168, 239, 184, 8, 99, 149, 86, 81, 2, 240, 211, 231, 238, 187, 229, 25, 94, 127, 81, 34, 3, 185, 180, 244, 244, 44, 186, 252, 13, 164, 195, 243, 233, 164, 92, 130, 115, 143, 161, 209, 151, 79, 215, 237, 237, 95, 201, 21, 241, 28, 122, 152, 51, 82, 227, 43, 115, 65, 156, 220, 225, 212, 218, 36, 67, 66, 41, 165, 220, 140, 8, 19, 251, 206, 105, 91, 123, 131, 86, 193, 14, 38, 132, 30, 53, 65, 120, 112, 123, 249, 18, 238, 41, 70, 26, 139, 182, 59, 95, 30, 36, 52, 241, 135, 37, 225, 241, 238, 28, 55, 58, 216, 255, 128, 41, 34, 142, 49, 98, 5, 198, 234, 32, 127, 200, 64, 231, 165, 14, 177]
set_option maxRecDepth 100000 in
theorem vG0 : ((List.range 17).map fun i => vF (0 + i)).flatten = vB0 := grp_is vfN vF 0 _ (fun c h1 h2 k => vfN_eq c (by omega) k) (by kernel_rfl)
def vB1 : List UInt8 := [230, 133, 58, 173, 23, 43, 144, 220, 231, 14, 146, 135, 48, 126, 115, 50, 209, 34, 208, 43, 35, 118, 199, 118, 97, 110, 194, 157, 25, 64, 248, 128, 234, 197, 194, 202, 5, 48, 64, 165, 142, 226, 222, 140, 139, 90, 73, 191, 127, 131, 32, 18, 252, 131, 218, 61, 249, 83, 187, 159, 19, 109, 121, 153, 68, 239, 161, 164, 174, 90, 237, 77, 105, 253, 194, 49, 11, 97, 137, 237, 190, 159, 159, 194, 99, 169, 217, 71, 110, 104, 68, 185, 236, 15, 16, 154, 177, 186, 245, 132, 77, 17, 163, 215, 202, 83, 187, 152, 50, 239, 189, 46, 147, 89, 41, 150, 46, 125, 69, 228, 108, 161, 41, 12, 176, 233, 113, 207, 170, 41, 9, 217, 110, 61, 176, 12, 222, 254, 92, 102, 165, 10, 153, 237, 255, 157, 152, 240, 255, 186, 252, 127, 10, 172, 153, 125, 23, 7, 239, 144, 88, 29, 166, 59, 120, 53, 63, 225, 46, 237, 213, 198, 148, 128, 180, 73, 105, 155, 217, 1, 66, 1, 238, 110, 73, 242, 41, 216, 239, 79, 123, 86, 133, 81, 188, 169, 108, 18, 7, 114, 223, 218, 133, 252, 7, 13, 107, 124, 8, 69, 49, 231, 7, 247, 37, 168, 62, 1, 86, 113, 215, 243, 250, 203, 155, 238, 89, 136, 147, 242, 11, 62, 84, 216, 133, 157, 245, 93, 67, 111, 177, 96, 8, 12, 232, 31, 208, 190, 4, 145, 231, 48, 120, 237, 89, 152, 95, 254, 8, 145, 143, 192, 23, 130, 102, 243, 94, 57, 53, 139, 164, 231]
set_option maxRecDepth 100000 in
theorem vG1 : ((List.range 17).map fun i => vF (17 + i)).flatten = vB1 := grp_is vfN vF 17 _ (fun c h1 h2 k => vfN_eq c (by omega) k) (by kernel_rfl)
def vB2 : List UInt8 := [249, 131, 179, 68, 176, 246, 218, 237, 238, 213, 138, 26, 19, 41, 132, 148, 86, 90, 26, 201, 77, 61, 129, 24, 28, 168, 16, 253, 219, 130, 19, 26, 63, 44, 68, 53, 106, 58, 18, 197, 125, 12, 107, 132, 54, 18, 148, 102, 103, 222, 78, 3, 47, 237, 149, 80, 71, 234, 74, 34, 182, 122, 119, 161, 195, 107, 224, 66, 80, 205, 21, 30, 242, 135, 249, 22, 199, 71, 47, 115, 17, 202, 195, 170, 227, 81, 110, 45, 101, 121, 182, 45, 244, 90, 103, 173, 253, 27, 145, 32, 146, 98, 74, 136, 215, 162, 27, 44, 96, 199, 207, 79, 181, 138, 180, 238, 20, 158, 184, 49, 94, 140, 47, 116, 198, 38, 195, 63, 17, 186, 122, 153, 235, 43, 169, 151, 5, 162, 242, 65, 82, 47, 16, 203, 230, 108, 27, 105, 144, 218, 194, 108, 160, 125, 70, 21, 96, 202, 188, 65, 104, 119, 57, 108, 158, 199, 53, 150, 45, 93, 63, 155, 246, 21, 169, 237, 141, 197, 195, 14, 253, 81, 201, 16, 43, 49, 254, 0, 250, 202, 62, 5, 203, 223, 95, 14, 154, 238, 115, 111, 2, 207, 120, 227, 126, 155, 145, 163, 1, 41, 15, 6, 212, 53, 230, 75, 19, 4, 176, 179, 115, 25, 163, 73, 161, 227, 240, 24, 74, 243, 7, 249, 93, 147, 194, 14, 48, 74, 47, 92, 34, 40, 231, 83, 114, 163, 184, 6, 26, 70, 141, 250, 43, 31, 164, 154, 82, 234, 10, 250, 137, 66, 238, 139, 144, 181, 28, 156, 123, 186, 109, 142]
set_option maxRecDepth 100000 in
theorem vG2 : ((List.range 17).map fun i => vF (34 + i)).flatten = vB2 := grp_is vfN vF 34 _ (fun c h1 h2 k => vfN_eq c (by omega) k) (by kernel_rfl)
def vB3 : List UInt8 := [135, 11, 50, 58, 137, 232, 44, 110, 153, 78, 43, 215, 79, 167, 209, 185, 21, 221, 162, 189, 24, 165, 97, 30, 102, 226, 94, 175, 29, 198, 31, 17, 70, 141, 27, 99, 132, 50, 10, 10, 110, 5, 219, 223, 99, 241, 235, 28, 153, 143, 18, 42, 199, 168, 239, 101, 136, 88, 172, 16, 123, 161, 87, 110, 26, 171, 41, 40, 169, 89, 106, 109, 140, 26, 151, 111, 3, 216, 72, 227, 248, 222, 59, 115, 51, 25, 252, 74, 97, 125, 210, 77, 84, 188, 126, 223, 245, 104, 196, 55, 105, 50, 115, 62, 237, 15, 190, 43, 5, 153, 246, 22, 63, 234, 181, 206, 172, 9, 223, 180, 81, 132, 98, 170, 100, 89, 58, 26, 223, 253, 15, 150, 5, 10, 206, 208, 163, 139, 251, 68, 58, 188, 73, 101, 140, 190, 166, 22, 244, 225, 251, 93, 232, 240, 14, 75, 99, 31, 58, 241, 232, 166, 129, 232, 85, 45, 42, 56, 110, 205, 138, 253, 194, 117, 232, 132, 103, 155, 34, 92, 26, 219, 43, 25, 129, 222, 249, 97, 25, 89, 167, 89, 117, 89, 220, 173, 137, 240, 103, 33, 131, 129, 34, 226, 119, 169, 237, 113, 133, 201, 54, 82, 41, 58, 223, 173, 159, 252, 88, 27, 187, 39, 163, 239, 252, 234, 209, 35, 4, 158, 226, 137, 24, 169, 208, 253, 225, 192, 71, 132, 94, 6, 254, 225, 160, 202, 60, 3, 126, 69, 33, 244, 62, 227, 107, 106, 216, 174, 251, 215, 181, 182, 77, 51, 102, 76, 39, 84, 5, 237, 106, 212]
set_option maxRecDepth 100000 in
theorem vG3 : ((List.range 17).map fun i => vF (51 + i)).flatten = vB3 := grp_is vfN vF 51 _ (fun c h1 h2 k => vfN_eq c (by omega) k) (by kernel_rfl)
def vK : List UInt8 := [12, 153, 3, 63, 238, 20, 206, 112, 202, 202, 209, 62, 21, 134, 37, 243]
def vL : List UInt8 := [7, 6, 7, 98, 207, 146, 209, 33, 126, 174, 199, 132, 223, 191, 60, 201]
set_option maxRecDepth 100000 in
theorem vK_is : ofD 3 [vB0 ++ (vB1 ++ (vB2 ++ vB3))] = vK := of_is _ _ _ (by kernel_rfl)
theorem vL_is : ofD 1 [vK] = vL := of_is _ _ _ (by kernel_rfl)
theorem v_leaf : leafV vF = vL := by
  unfold leafV
  rw [all_is vF _ _ _ _ vG0 vG1 vG2 vG3, vK_is, vL_is]
def pL : List UInt8 := [63, 222, 13, 97, 98, 161, 189, 56, 185, 133, 123, 87, 40, 3, 112, 192]
def rtL : List UInt8 := [33, 115, 65, 225, 186, 133, 106, 80, 8, 152, 163, 234, 64, 97, 129, 179]
def d0L : List UInt8 := [116, 206, 13, 229, 151, 158, 249, 137, 78, 82, 213, 143, 87, 246, 39, 21]
theorem node0 : nodeAt s5 0 0 = aL := a_leaf
theorem node1 : nodeAt s5 0 1 = bL := b_leaf
theorem p_is : nodeS aL bL = pL := of_is _ _ _ (by kernel_rfl)
theorem rt_is : nodeS aL vL = rtL := of_is _ _ _ (by kernel_rfl)
theorem pub5 : nodeAt s5 1 0 = pL := by
  show nodeS (nodeAt s5 0 0) (nodeAt s5 0 1) = pL
  rw [node0, node1, p_is]
theorem dm_is : digestS pL 1 [109] = dmL := of_is _ _ _ (by kernel_rfl)
theorem dn_is : digestS pL 1 [110] = dnL := of_is _ _ _ (by kernel_rfl)
theorem d0_is : digestS pL 0 [109] = d0L := of_is _ _ _ (by kernel_rfl)
theorem dm_ne : digestS pL 1 [109] ≠ digestS pL 0 [109] := by rw [dm_is, d0_is]; decide
/-- The signature of another message is not accepted. -/
theorem wrong5 : rootV pL 1 1 [110] (sigL s5 1 1 [109]).flatten ≠ pL := by
  have h1 : leafV (verV (digestS pL ((1 : Nat) : Int) [110]) 1 (sigL s5 1 1 [109]).flatten) = vL := by
    rw [← v_leaf]
    apply leafV_congr
    intro c hc
    unfold verV
    rw [chunk_val s5 1 1 [109] c hc, pub5]
    show adv ((1 : Nat) : Int) c (dig (digestS pL 1 [110]) c) (3 - dig (digestS pL 1 [110]) c) (sigV s5 1 (digestS pL 1 [109]) c) = vF c
    rw [dn_is, dm_is]
    rfl
  have h2 : chunk (sigL s5 1 1 [109]).flatten (68 + 0) = aL := by
    rw [chunk_path s5 1 1 [109] 0 (by decide)]
    exact node0
  unfold rootV
  rw [h1]
  show (if 1 / 2 ^ 0 % 2 = 1 then nodeS (chunk (sigL s5 1 1 [109]).flatten (68 + 0)) vL else nodeS vL (chunk (sigL s5 1 1 [109]).flatten (68 + 0))) ≠ pL
  rw [if_pos (by decide), h2, rt_is]
  decide
end Go.Proofs.YtidfbboalbchiaaDoor

namespace Go.Proofs.YtidfbboalbchiaaDoor
open Go Go.RowKit

/-- Whom an operation waits for, as bits: L is the list of the earlier ones' masks, the last one first. -/
def maskOf (o : Oper) (j : Nat) (L : List Nat) : Nat :=
  o.after.toList.foldl (fun m e => if Region.binds .any e && Nat.blt e.on j then m ||| (1 <<< e.on ||| L.getD (j - 1 - e.on) 0) else m) 0
def ancK : List Oper → Nat → List Nat → (List Nat → Bool) → Bool
  | [], _, L, k => k L
  | o :: r, j, L, k => fc (maskOf o j L) fun m => ancK r (j + 1) (m :: L) k
def ancR : List Oper → Nat → List Nat → List Nat
  | [], _, L => L
  | o :: r, j, L => ancR r (j + 1) (maskOf o j L :: L)
theorem ancK_eq : ∀ (l : List Oper) (j : Nat) (L : List Nat) (k : List Nat → Bool), ancK l j L k = k (ancR l j L) := by
  intro l
  induction l with
  | nil => intro j L k; rfl
  | cons o r ih => intro j L k; rw [ancK, fc_eq, ih]; rfl
theorem waits_mono {ops : Array Oper} : ∀ (n m j i : Nat), n ≤ m → waitsB ops n j i = true → waitsB ops m j i = true := by
  intro n
  induction n with
  | zero => intro m j i _ h; simp [waitsB] at h
  | succ n ih =>
    intro m j i hm h
    obtain ⟨m, rfl⟩ : ∃ k, m = k + 1 := ⟨m - 1, by omega⟩
    unfold waitsB at h ⊢
    cases ho : ops[j]? with
    | none => simp [ho] at h
    | some o =>
      simp only [ho] at h ⊢
      obtain ⟨e, he, hb⟩ := Array.any_eq_true'.1 h
      refine Array.any_eq_true'.2 ⟨e, he, ?_⟩
      simp only [Bool.and_eq_true, Bool.or_eq_true] at hb ⊢
      exact ⟨hb.1, hb.2.imp id (ih m _ _ (by omega))⟩
theorem fold_bit (f : Edge → Bool) (g : Edge → Nat) (i : Nat) : ∀ (l : List Edge) (m : Nat), (l.foldl (fun m e => if f e then m ||| g e else m) m).testBit i = true → m.testBit i = true ∨ ∃ e ∈ l, f e = true ∧ (g e).testBit i = true := by
  intro l
  induction l with
  | nil => intro m h; exact .inl h
  | cons e r ih =>
    intro m h
    rw [List.foldl_cons] at h
    rcases ih _ h with h1 | ⟨e', he', h1⟩
    · cases hf : f e with
      | false => rw [hf] at h1; exact .inl (by simpa using h1)
      | true =>
        rw [hf, if_pos rfl, Nat.testBit_or, Bool.or_eq_true] at h1
        rcases h1 with h1 | h1
        · exact .inl h1
        · exact .inr ⟨e, List.mem_cons_self .., hf, h1⟩
    · exact .inr ⟨e', List.mem_cons_of_mem _ he', h1⟩
theorem anc_inv {ops : Array Oper} : ∀ (l : List Oper) (j : Nat) (L : List Nat), ops.toList.drop j = l → L.length = j → (∀ q, q < j → ∀ i, (L.getD (j - 1 - q) 0).testBit i = true → waitsB ops (q + 1) q i = true) →
    (ancR l j L).length = j + l.length ∧ ∀ q, q < j + l.length → ∀ i, ((ancR l j L).getD (j + l.length - 1 - q) 0).testBit i = true → waitsB ops (q + 1) q i = true := by
  intro l
  induction l with
  | nil => intro j L _ hL h; exact ⟨by simp [ancR, hL], by simpa [ancR] using h⟩
  | cons o r ih =>
    intro j L hd hL h
    have hj : ops.toList[j]? = some o := by
      have := congrArg (fun l => l[0]?) hd
      simpa using this
    have hj' : ops[j]? = some o := by simpa using hj
    have hr : ops.toList.drop (j + 1) = r := by
      have := congrArg List.tail hd
      simpa [List.tail_drop] using this
    have := ih (j + 1) (maskOf o j L :: L) hr (by simp [hL]) (fun q hq i hb => ?_)
    · simp only [ancR, List.length_cons]
      rw [show j + (r.length + 1) = j + 1 + r.length by omega]
      exact this
    · by_cases hqj : q = j
      · subst hqj
        rw [show q + 1 - 1 - q = 0 by omega] at hb
        simp only [List.getD_cons_zero] at hb
        rcases fold_bit _ _ i _ _ hb with h1 | ⟨e, he, hf, h1⟩
        · simp at h1
        · obtain ⟨hf1, hf2⟩ := Bool.and_eq_true_iff.1 hf
          have hlt : e.on < q := by rw [Nat.blt_eq] at hf2; exact hf2
          unfold waitsB
          rw [hj']
          refine Array.any_eq_true'.2 ⟨e, by simpa using he, ?_⟩
          simp only [Bool.and_eq_true, Bool.or_eq_true]
          refine ⟨hf1, ?_⟩
          rw [Nat.testBit_or, Bool.or_eq_true] at h1
          rcases h1 with h1 | h1
          · left
            rw [Nat.one_shiftLeft, Nat.testBit_two_pow] at h1
            have := of_decide_eq_true h1
            rw [this]; exact Nat.beq_refl _
          · right
            exact waits_mono (e.on + 1) q _ _ (by omega) (h e.on hlt i h1)
      · rw [show j + 1 - 1 - q = (j - 1 - q) + 1 by omega, List.getD_cons_succ] at hb
        exact h q (by omega) i hb
/-- A bit says that it waits. -/
theorem waits_of_anc {ops : Array Oper} {j i : Nat} (hj : j < ops.size) (h : ((ancR ops.toList 0 []).getD (ops.size - 1 - j) 0).testBit i = true) : waitsB ops ops.size j i = true := by
  have := (anc_inv (ops := ops) ops.toList 0 [] (by simp) rfl (fun q hq => by omega)).2 j (by simpa using hj) i (by simpa using h)
  exact waits_mono _ _ _ _ (by omega) this
def ok2N (ops : Array Oper) (cl : List Nat) (R : List Nat) (i j : Nat) : Bool :=
  (R.getD (ops.size - 1 - j) 0).testBit i || match ops[i]?, ops[j]? with
    | some oi, some oj => oi.apart ops oj && commB (clAt cl i) (clAt cl j)
    | _, _ => true
def chkN (ops : Array Oper) (cl : List Nat) (d : Nat → Bool) (i : Nat) : Bool :=
  closedB ops d && selB ops && rdyB ops d i && ancK ops.toList 0 [] fun R => (List.range ops.size).all fun j => Nat.beq j i || d j || ok2N ops cl R i j
theorem chkN_ok {ops : Array Oper} {cl : List Nat} {d : Nat → Bool} {i : Nat} (h : chkN ops cl d i = true) : chkB ops cl d i = true := by
  unfold chkN at h
  unfold chkB
  rw [Bool.and_eq_true_iff] at h ⊢
  refine ⟨h.1, ?_⟩
  have h2 := h.2
  rw [ancK_eq] at h2
  refine List.all_eq_true.2 fun j hj => ?_
  have h3 := List.all_eq_true.1 h2 j hj
  rw [Bool.or_eq_true] at h3 ⊢
  refine h3.imp id fun h4 => ?_
  unfold ok2N at h4
  unfold ok2
  rw [Bool.or_eq_true] at h4 ⊢
  exact h4.imp (waits_of_anc (List.mem_range.1 hj)) id
def frontN (ops : Array Oper) (D : Nat → Bool) : Bool :=
  ancK ops.toList 0 [] fun R => (List.range ops.size).all fun i => D i || ((List.range ops.size).all fun j => !D j || (R.getD (ops.size - 1 - i) 0).testBit j) || (List.range ops.size).any fun j => !D j && (R.getD (ops.size - 1 - i) 0).testBit j
theorem frontN_ok {ops : Array Oper} {D : Nat → Bool} {r : Nat} (h : (fwdB ops && onB ops && frontN ops D && Nat.beq (left D ops.size) r) = true) : (fwdB ops && onB ops && frontB ops D && Nat.beq (left D ops.size) r) = true := by
  simp only [Bool.and_eq_true] at h ⊢
  refine ⟨⟨h.1.1, ?_⟩, h.2⟩
  have h2 := h.1.2
  unfold frontN at h2
  rw [ancK_eq] at h2
  unfold frontB
  refine List.all_eq_true.2 fun i hi => ?_
  have h3 := List.all_eq_true.1 h2 i hi
  simp only [Bool.or_eq_true] at h3 ⊢
  have hlt := List.mem_range.1 hi
  rcases h3 with (h3 | h3) | h3
  · exact .inl (.inl h3)
  · refine .inl (.inr (List.all_eq_true.2 fun j hj => ?_))
    have h4 := List.all_eq_true.1 h3 j hj
    rw [Bool.or_eq_true] at h4 ⊢
    exact h4.imp id (waits_of_anc hlt)
  · obtain ⟨j, hj, h4⟩ := List.any_eq_true.1 h3
    refine .inr (List.any_eq_true.2 ⟨j, hj, ?_⟩)
    rw [Bool.and_eq_true] at h4 ⊢
    exact ⟨h4.1, waits_of_anc hlt h4.2⟩
end Go.Proofs.YtidfbboalbchiaaDoor

namespace Go.Proofs.YtidfbboalbchiaaDoor
open Go Go.RowKit

theorem made32 : (madeCells (Value.int .u8 0).cells (32 * 1)).toList = (List.replicate 32 (0 : UInt8)).map B := by kernel_rfl
/-- The first i bytes are x. -/
def seedP (x : UInt8) (i : Nat) : List UInt8 := List.replicate i x ++ List.replicate (32 - i) 0
theorem seedP_set (x : UInt8) (i : Nat) (hi : i < 32) : ((seedP x i).map B).toArray.setIfInBounds (0 + i) (B x) = ((seedP x (i + 1)).map B).toArray := by
  have e : seedP x i = List.replicate i x ++ [0] ++ List.replicate (32 - (i + 1)) 0 := by
    unfold seedP; rw [show 32 - i = (32 - (i + 1)) + 1 by omega, List.replicate_succ]; simp
  rw [e, bytes_set _ _ _ _ _ (by simp)]
  unfold seedP
  rw [List.replicate_succ']
theorem seedP_all (x : UInt8) : seedP x 32 = List.replicate 32 x := by simp [seedP]
theorem own_block {w : World} {base b n : Nat} {l : List UInt8} (h : w.ownsRow base 5 1 (.slice (some ⟨b, 0, none⟩) n n) n (l.map B)) (hn : 0 < n) : w.heap[b]? = some (.cells (l.map B).toArray 5 (0, 0)) ∧ base ≤ b := by
  obtain ⟨g, cap, cur, hv, hb, hg, hc, hm, hs, ht⟩ := own_pts h hn
  cases hv
  rw [List.take_of_length_le (by simp [hs])] at ht
  exact ⟨by rw [hg, ← ht], hb⟩

set_option maxRecDepth 4000 in
set_option maxHeartbeats 1000000 in
theorem c38 (x : UInt8) (w0 : World) : Calls Tryd.prog 38 #[B x] w0 fun e w' => e = .returned (Str (List.replicate 32 x)) ∧ Ext w0 w' := by
  refine start 16 Tryd.func38 rfl rfl rfl fun a hk => ?_
  have hB : Ext w0 w0 := Below.refl _ _
  refine wp_seq_k fun K1 hK1 => ?_
  refine wp_region_lit ?_
  refine ls hk rfl rfl rfl (e_assign hk rfl _) fun a hk => ?_
  refine lnil (hK1 _ _ ?_)
  refine wp_seq_k fun K2 hK2 => ?_
  refine wp_region_lit ?_
  refine la hk rfl (a_make (n := 32) hk rfl rfl rfl Tryd.underlying22 el5 (by decide) (by decide) fun a w v hk hvb hown hE => ?_)
  obtain ⟨b3, rfl⟩ := hvb
  rw [made32] at hown
  obtain ⟨h_b3, hg_b3⟩ := own_block (l := List.replicate 32 0) hown (by decide)
  have hB := ext_trans hB hE
  clear hown hE
  refine ls hk rfl rfl rfl (e_assign hk rfl _) fun a hk => ?_
  refine lnil (hK2 _ _ ?_)
  refine wp_seq_k fun K3 hK3 => ?_
  refine wp_seq_k fun K4 hK4 => ?_
  refine wp_region_lit ?_
  refine ls hk rfl rfl rfl (e_assign hk rfl _) fun a hk => ?_
  refine lnil (hK4 _ _ ?_)
  refine wp_block ?_
  refine loopN (fun n a w => ∃ i : Nat, n = 32 - i ∧ i ≤ 32 ∧ Kn a 16 [(0, B x), (3, .slice (some ⟨b3, 0, none⟩) 32 32), (4, I i)] ∧ (Ext w0 w) ∧ (w.heap[b3]? = some (.cells ((seedP x i).map B).toArray 5 (0, 0)))) (32 - 0) ?_ fun n a w hI => ?_
  · exact ⟨0, rfl, by omega, hk.sub _ ⟨rfl, rfl, rfl, trivial⟩, hB, h_b3⟩
  clear hk hB
  obtain ⟨i, rfl, hi_le, hk, hB, h_b3⟩ := hI
  refine wp_seq_k fun K5 hK5 => ?_
  refine wp_seq_k fun K6 hK6 => ?_
  refine wp_region_lit ?_
  refine ls hk rfl rfl rfl (e_move hk rfl _) fun a hk => ?_
  refine ls hk rfl rfl rfl (e_lss hk rfl rfl rfl _) fun a hk => ?_
  refine lnil (hK6 _ _ ?_)
  refine cdB hk rfl (fun hb => ?_) (fun hb => ?_)
  · have hi : i < 32 := by have := of_decide_eq_true hb; omega
    refine wp_skip (hK5 _ _ ?_)
    refine wp_seq_k fun K7 hK7 => ?_
    refine wp_block ?_
    refine wp_region_lit ?_
    refine ls hk rfl rfl rfl (e_move hk rfl _) fun a hk => ?_
    refine ls hk rfl rfl rfl (e_move hk rfl _) fun a hk => ?_
    refine ls hk rfl rfl rfl (e_move hk rfl _) fun a hk => ?_
    refine ls hk rfl rfl rfl (e_idxS1 i hk rfl rfl Tryd.underlying22 sz5 rfl hi _) fun a hk => ?_
    refine la hk rfl (a_store hk rfl rfl rfl sz5 h_b3 (by simp [seedP]; omega) fun a w hk W => ?_)
    have hB := W.below hB hg_b3
    have h_b3 := W.at_
    clear W
    rw [seedP_set x i hi] at h_b3
    refine lnil (hK7 _ _ ?_)
    refine wp_region_lit ?_
    refine ls hk rfl rfl rfl (e_move hk rfl _) fun a hk => ?_
    refine ls hk rfl rfl rfl (e_add (q := ((i + 1 : Nat) : Int)) hk rfl rfl (by rw [i64 (by omega) (by omega)]; omega) _) fun a hk => ?_
    refine ls hk rfl rfl rfl (e_assign hk rfl _) fun a hk => ?_
    refine lnil (show ∃ m : Nat, m < _ ∧ _ from ⟨32 - (i + 1), by omega, i + 1, rfl, by omega, hk.sub _ ⟨rfl, rfl, rfl, trivial⟩, hB, h_b3⟩)
  · have hi : i = 32 := by have := of_decide_eq_false hb; omega
    subst hi
    rw [seedP_all] at h_b3
    refine wp_exit (hK3 _ _ ?_)
    refine wp_seq_k fun K8 hK8 => ?_
    refine wp_region_lit ?_
    refine ls hk rfl rfl rfl (e_move hk rfl _) fun a hk => ?_
    refine ls hk rfl rfl rfl (e_str (bs := List.replicate 32 x) hk rfl (Rd.of_block h_b3 (by simp) (Nat.le_refl _) fun i hi => by rw [Nat.zero_add]; simp) Tryd.underlying22 Tryd.underlying5 Tryd.underlying9) fun a hk => ?_
    refine ls hk rfl rfl rfl (e_assign hk rfl _) fun a hk => ?_
    refine lnil (hK8 _ _ ?_)
    refine wp_ret ?_
    exact ret1 hk rfl rfl ⟨rfl, hB⟩

theorem ver_m : verR pL 1 [109] (signS s5 1 1 [109]) = (1, 0) := by
  have h := verR_sign s5 1 1 [109] (by decide) (by decide) (by decide)
  rw [pub5] at h
  exact h
theorem ver_n : verR pL 1 [110] (signS s5 1 1 [109]) = (0, 10) := by
  have hg := getI_small 1 (by decide) (sigL s5 1 1 [109]).flatten
  rw [← signS_eq] at hg
  have hd : (signS s5 1 1 [109]).drop (encI ((1 : Nat) : Int)).length = (sigL s5 1 1 [109]).flatten := by rw [signS_eq, List.drop_left]
  have h := verR_end (p := pL) (m := [110]) (n := 1) (by decide) (by decide) hg (by decide) (by rw [hd, length_body])
  rw [hd, if_pos wrong5] at h
  exact h
/-- What the example says, of some seed, root and signature. -/
theorem facts5 : ∃ s p g : List UInt8, List.replicate 32 5 = s ∧ s.length = 32 ∧ p.length = 16 ∧ g.length ≤ 2000 ∧ pubR s 1 = (p, 0) ∧ sigR s 1 1 [109] = (g, 0) ∧ verR p 1 [109] g = (1, 0) ∧ verR p 1 [110] g = (0, 10) ∧ sigR s 1 2 [109] = ([], 22) ∧ pubR (s.drop 1) 0 = (zD, 1) ∧ digestS p 1 [109] ≠ digestS p 0 [109] := by
  refine ⟨s5, pL, signS s5 1 1 [109], rfl, by simp [s5], by decide, ?_, ?_, ?_, ver_m, ver_n, ?_, ?_, dm_ne⟩
  · rw [signS_eq, List.length_append, length_body]
    exact Nat.le_trans (Nat.add_le_add_right (length_encI_le ((1 : Nat) : Int)) _) (by decide)
  · unfold pubR
    rw [if_neg (by simp [s5])]
    show (nodeAt s5 1 0, _) = _
    rw [pub5]
  · unfold sigR
    rw [if_neg (by simp [s5]), if_neg (by decide), if_neg (by decide)]
    rfl
  · unfold sigR
    rw [if_neg (by simp [s5]), if_pos (by decide)]
  · unfold pubR
    rw [if_pos (by simp [s5])]
theorem dz0 : dig zD 0 = 0 := by decide +kernel
theorem dz64 : dig zD 64 = 3 := by decide +kernel
theorem dz67 : dig zD 67 = 0 := by decide +kernel


set_option maxRecDepth 4000 in
set_option maxHeartbeats 1000000 in
theorem c33 (w0 : World) (hG : GH w0) : Calls Tryd.prog 33 #[] w0 fun e w' => e = .returned (.bool true) ∧ Ext w0 w' := by
  obtain ⟨s, p, g, hs5, hsl, hp, hgl, hpub, hsig, hvm, hvn, hsp, hsh, hne0⟩ := facts5
  obtain ⟨x1, hx1, hl1⟩ : ∃ x1, digestS p 1 [109] = x1 ∧ x1.length = 16 := ⟨_, rfl, by simp⟩
  obtain ⟨x0, hx0, hl0⟩ : ∃ x0, digestS p 0 [109] = x0 ∧ x0.length = 16 := ⟨_, rfl, by simp⟩
  have hne : ¬ x1 = x0 := by rw [← hx1, ← hx0]; exact hne0
  clear hne0
  refine start (args := []) 105 Tryd.func33 rfl rfl rfl fun a hk => ?_
  have hB : Ext w0 w0 := Below.refl _ _
  refine wp_seq_k fun K1 hK1 => ?_
  refine wp_region_lit ?_
  refine ls hk rfl rfl rfl (e_assign hk rfl _) fun a hk => ?_
  refine lnil (hK1 _ _ ?_)
  refine wp_seq_k fun K2 hK2 => ?_
  refine wp_region_lit ?_
  refine la hk rfl (a_call hk rfl rfl (c_fn hk rfl ok38) (c38 5 _) ?_)
  rintro e w ⟨rfl, hE⟩
  refine ⟨_, rfl, fun a hk => ?_⟩
  have hB := ext_trans hB hE
  rw [hs5] at hk
  clear hE
  refine ls hk rfl rfl rfl (e_assign hk rfl _) fun a hk => ?_
  refine lnil (hK2 _ _ ?_)
  refine wp_seq_k fun K3 hK3 => ?_
  refine wp_region_lit ?_
  refine ls hk rfl rfl rfl (e_move hk rfl _) fun a hk => ?_
  refine la hk rfl (a_call hk rfl rfl (c_fn hk rfl ok37) (c37 s 1 _ (hG.ext hB) (by omega)) ?_)
  rintro e w ⟨rfl, hE⟩
  refine ⟨_, rfl, fun a hk => ?_⟩
  have hB := ext_trans hB hE
  rw [hpub] at hk
  clear hE
  refine ls hk rfl rfl rfl (e_move hk rfl _) fun a hk => ?_
  refine ls hk rfl rfl rfl (e_ext hk rfl rfl _) fun a hk => ?_
  refine ls hk rfl rfl rfl (e_ext hk rfl rfl _) fun a hk => ?_
  refine la hk rfl (a_alloc hk rfl zr44 fun a w b2 hk G => ?_)
  have hg_b2 : w0.heap.size ≤ b2 := Nat.le_trans hB.size G.ge
  have hB := ext_trans hB G.ext
  have h_b2 := G.at_
  clear G
  refine la hk rfl (a_st44 (l := p) hk rfl rfl hp h_b2 rfl fun a w hk W => ?_)
  have hB := W.below hB hg_b2
  have h_b2 := W.at_
  clear W
  refine ls hk rfl rfl rfl (e_assign hk rfl _) fun a hk => ?_
  refine lnil (hK3 _ _ ?_)
  refine wp_seq_k fun K4 hK4 => ?_
  refine wp_region_lit ?_
  refine ls hk rfl rfl rfl (e_move hk rfl _) fun a hk => ?_
  refine la hk rfl (a_call hk rfl rfl (c_fn hk rfl ok39) (c39 s 1 1 ⟨by decide, by decide⟩ [109] (by decide) _ (hG.ext hB)) ?_)
  rintro e w ⟨rfl, hE⟩
  refine ⟨_, rfl, fun a hk => ?_⟩
  have h_b2 := ext_at hE h_b2
  have hB := ext_trans hB hE
  rw [hsig] at hk
  clear hE
  refine ls hk rfl rfl rfl (e_move hk rfl _) fun a hk => ?_
  refine ls hk rfl rfl rfl (e_ext hk rfl rfl _) fun a hk => ?_
  refine ls hk rfl rfl rfl (e_ext hk rfl rfl _) fun a hk => ?_
  refine ls hk rfl rfl rfl (e_assign hk rfl _) fun a hk => ?_
  refine ls hk rfl rfl rfl (e_assign hk rfl _) fun a hk => ?_
  refine lnil (hK4 _ _ ?_)
  refine wp_seq_k fun K5 hK5 => ?_
  refine wp_region_lit ?_
  refine ls hk rfl rfl rfl (r_ld44 hk rfl h_b2 hp) fun a hk => ?_
  refine ls hk rfl rfl rfl (e_move hk rfl _) fun a hk => ?_
  refine la hk rfl (a_call hk rfl rfl (c_fn hk rfl ok40) (c40 p hp 1 [109] g (by decide) (by omega) _ (hG.ext hB)) ?_)
  rintro e w ⟨rfl, hE⟩
  refine ⟨_, rfl, fun a hk => ?_⟩
  have h_b2 := ext_at hE h_b2
  have hB := ext_trans hB hE
  rw [hvm] at hk
  clear hE
  refine ls hk rfl rfl rfl (e_move hk rfl _) fun a hk => ?_
  refine ls hk rfl rfl rfl (e_ext hk rfl rfl _) fun a hk => ?_
  refine ls hk rfl rfl rfl (e_ext hk rfl rfl _) fun a hk => ?_
  refine ls hk rfl rfl rfl (e_assign hk rfl _) fun a hk => ?_
  refine ls hk rfl rfl rfl (e_assign hk rfl _) fun a hk => ?_
  refine lnil (hK5 _ _ ?_)
  refine wp_seq_k fun K6 hK6 => ?_
  refine wp_region_lit ?_
  refine ls hk rfl rfl rfl (r_ld44 hk rfl h_b2 hp) fun a hk => ?_
  refine ls hk rfl rfl rfl (e_move hk rfl _) fun a hk => ?_
  refine la hk rfl (a_call hk rfl rfl (c_fn hk rfl ok40) (c40 p hp 1 [110] g (by decide) (by omega) _ (hG.ext hB)) ?_)
  rintro e w ⟨rfl, hE⟩
  refine ⟨_, rfl, fun a hk => ?_⟩
  have h_b2 := ext_at hE h_b2
  have hB := ext_trans hB hE
  rw [hvn] at hk
  clear hE
  refine ls hk rfl rfl rfl (e_move hk rfl _) fun a hk => ?_
  refine ls hk rfl rfl rfl (e_ext hk rfl rfl _) fun a hk => ?_
  refine ls hk rfl rfl rfl (e_ext hk rfl rfl _) fun a hk => ?_
  refine ls hk rfl rfl rfl (e_assign hk rfl _) fun a hk => ?_
  refine ls hk rfl rfl rfl (e_assign hk rfl _) fun a hk => ?_
  refine lnil (hK6 _ _ ?_)
  refine wp_seq_k fun K7 hK7 => ?_
  refine wp_region_lit ?_
  refine ls hk rfl rfl rfl (e_move hk rfl _) fun a hk => ?_
  refine la hk rfl (a_call hk rfl rfl (c_fn hk rfl ok39) (c39 s 1 2 ⟨by decide, by decide⟩ [109] (by decide) _ (hG.ext hB)) ?_)
  rintro e w ⟨rfl, hE⟩
  refine ⟨_, rfl, fun a hk => ?_⟩
  have h_b2 := ext_at hE h_b2
  have hB := ext_trans hB hE
  rw [hsp] at hk
  clear hE
  refine ls hk rfl rfl rfl (e_move hk rfl _) fun a hk => ?_
  refine ls hk rfl rfl rfl (e_ext hk rfl rfl _) fun a hk => ?_
  refine ls hk rfl rfl rfl (e_ext hk rfl rfl _) fun a hk => ?_
  refine ls hk rfl rfl rfl (e_assign hk rfl _) fun a hk => ?_
  refine ls hk rfl rfl rfl (e_assign hk rfl _) fun a hk => ?_
  refine lnil (hK7 _ _ ?_)
  refine wp_seq_k fun K8 hK8 => ?_
  refine wp_region_lit ?_
  refine ls hk rfl rfl rfl (e_move hk rfl _) fun a hk => ?_
  refine ls hk rfl rfl rfl (e_slStrFromN 1 hk rfl rfl Tryd.underlying9 rfl (by omega) _) fun a hk => ?_
  refine la hk rfl (a_call hk rfl rfl (c_fn hk rfl ok37) (c37 (s.drop 1) 0 _ (hG.ext hB) (by rw [List.length_drop]; omega)) ?_)
  rintro e w ⟨rfl, hE⟩
  refine ⟨_, rfl, fun a hk => ?_⟩
  have h_b2 := ext_at hE h_b2
  have hB := ext_trans hB hE
  rw [hsh] at hk
  clear hE
  refine ls hk rfl rfl rfl (e_move hk rfl _) fun a hk => ?_
  refine ls hk rfl rfl rfl (e_ext hk rfl rfl _) fun a hk => ?_
  refine ls hk rfl rfl rfl (e_ext hk rfl rfl _) fun a hk => ?_
  refine la hk rfl (a_alloc hk rfl zr44 fun a w b12 hk G => ?_)
  have n_b2_b12 : b2 ≠ b12 := G.ne h_b2
  have hg_b12 : w0.heap.size ≤ b12 := Nat.le_trans hB.size G.ge
  have h_b2 := ext_at G.ext h_b2
  have hB := ext_trans hB G.ext
  have h_b12 := G.at_
  clear G
  refine la hk rfl (a_st44 (l := zD) hk rfl rfl (by simp [zD]) h_b12 rfl fun a w hk W => ?_)
  have h_b2 := W.keep n_b2_b12 h_b2
  have hB := W.below hB hg_b12
  have h_b12 := W.at_
  clear W
  refine ls hk rfl rfl rfl (e_assign hk rfl _) fun a hk => ?_
  refine lnil (hK8 _ _ ?_)
  refine wp_seq_k fun K9 hK9 => ?_
  refine wp_region_lit ?_
  refine ls hk rfl rfl rfl (e_zero44 hk _) fun a hk => ?_
  refine la hk rfl (a_call hk rfl rfl (c_fn hk rfl ok34) (c34 zD (by simp [zD]) _) ?_)
  rintro e w ⟨⟨bd, rfl, hgd, h_bd⟩, hE⟩
  refine ⟨_, rfl, fun a hk => ?_⟩
  have h_b2 := ext_at hE h_b2
  have h_b12 := ext_at hE h_b12
  have hB := ext_trans hB hE
  clear hE
  refine ls hk rfl rfl rfl (e_assign hk rfl _) fun a hk => ?_
  refine lnil (hK9 _ _ ?_)
  refine wp_seq_k fun K10 hK10 => ?_
  refine wp_seq_k fun K11 hK11 => ?_
  refine wp_region_lit ?_
  refine ls hk rfl rfl rfl (e_move hk rfl _) fun a hk => ?_
  refine ls hk rfl rfl rfl (e_neq (b := false) hk rfl rfl (by simp) _) fun a hk => ?_
  refine ls hk rfl rfl rfl (e_move hk rfl _) fun a hk => ?_
  refine ls hk rfl rfl rfl (e_move hk rfl _) fun a hk => ?_
  refine ls hk rfl rfl rfl (e_neq (b := false) hk rfl rfl (by simp) _) fun a hk => ?_
  refine ls hk rfl rfl rfl (e_pickF hk rfl rfl _) fun a hk => ?_
  refine ls hk rfl rfl rfl (e_move hk rfl _) fun a hk => ?_
  refine ls hk rfl rfl rfl (e_move hk rfl _) fun a hk => ?_
  refine ls hk rfl rfl rfl (e_neq (b := false) hk rfl rfl (by simp) _) fun a hk => ?_
  refine ls hk rfl rfl rfl (e_pickF hk rfl rfl _) fun a hk => ?_
  refine ls hk rfl rfl rfl (e_move hk rfl _) fun a hk => ?_
  refine ls hk rfl rfl rfl (e_move hk rfl _) fun a hk => ?_
  refine ls hk rfl rfl rfl (e_lenS hk rfl Tryd.underlying45 _) fun a hk => ?_
  refine ls hk rfl rfl rfl (e_neq (b := false) hk rfl rfl (by simp) _) fun a hk => ?_
  refine ls hk rfl rfl rfl (e_pickF hk rfl rfl _) fun a hk => ?_
  refine lnil (hK11 _ _ ?_)
  refine cdF hk rfl ?_
  refine wp_skip (hK10 _ _ ?_)
  refine wp_seq_k fun K12 hK12 => ?_
  refine wp_region_ok (fun w => w.heap[b2]? = some (.cells (p.map B).toArray 44 (0, 0))) [0, 0, 0, 0, 0, 0, 0, 0, 0, 0, 0, 0, 0, 0, 0, 0, 0, 1, 0, 0, 0, 0, 0, 1, 0, 0, 0, 0, 0, 1, 0, 0, 0, 1, 4, 3, 2, 0, 0, 0] mixed ?_
  have hB := hB.drew
  have h_b2 := ext_at (ext_drew w) h_b2
  have h_b12 := ext_at (ext_drew w) h_b12
  have h_bd := ext_at (ext_drew w) h_bd
  have hS : (fun w => w.heap[b2]? = some (.cells (p.map B).toArray 44 (0, 0))) w.drew := h_b2
  refine d0 0 hk rfl (chkN_ok (by as_aux_lemma => kernel_rfl)) rfl rfl rfl rfl (fun _ => e_move hk rfl _) fun a hk => ?_
  refine d0 1 hk rfl (chkN_ok (by as_aux_lemma => kernel_rfl)) rfl rfl rfl rfl (fun _ => e_eql (b := true) hk rfl rfl (by simp) _) fun a hk => ?_
  refine d0 2 hk rfl (chkN_ok (by as_aux_lemma => kernel_rfl)) rfl rfl rfl rfl (fun _ => e_move hk rfl _) fun a hk => ?_
  refine d0 3 hk rfl (chkN_ok (by as_aux_lemma => kernel_rfl)) rfl rfl rfl rfl (fun _ => e_move hk rfl _) fun a hk => ?_
  refine d0 4 hk rfl (chkN_ok (by as_aux_lemma => kernel_rfl)) rfl rfl rfl rfl (fun _ => e_eql (b := true) hk rfl rfl (by simp) _) fun a hk => ?_
  refine d0 5 hk rfl (chkN_ok (by as_aux_lemma => kernel_rfl)) rfl rfl rfl rfl (fun _ => e_pickT hk rfl rfl _) fun a hk => ?_
  refine d0 6 hk rfl (chkN_ok (by as_aux_lemma => kernel_rfl)) rfl rfl rfl rfl (fun _ => e_move hk rfl _) fun a hk => ?_
  refine d0 7 hk rfl (chkN_ok (by as_aux_lemma => kernel_rfl)) rfl rfl rfl rfl (fun _ => e_move hk rfl _) fun a hk => ?_
  refine d0 8 hk rfl (chkN_ok (by as_aux_lemma => kernel_rfl)) rfl rfl rfl rfl (fun _ => e_eql (b := true) hk rfl rfl (by simp) _) fun a hk => ?_
  refine d0 9 hk rfl (chkN_ok (by as_aux_lemma => kernel_rfl)) rfl rfl rfl rfl (fun _ => e_pickT hk rfl rfl _) fun a hk => ?_
  refine d0 10 hk rfl (chkN_ok (by as_aux_lemma => kernel_rfl)) rfl rfl rfl rfl (fun _ => e_move hk rfl _) fun a hk => ?_
  refine d0 11 hk rfl (chkN_ok (by as_aux_lemma => kernel_rfl)) rfl rfl rfl rfl (fun _ => e_move hk rfl _) fun a hk => ?_
  refine d0 12 hk rfl (chkN_ok (by as_aux_lemma => kernel_rfl)) rfl rfl rfl rfl (fun _ => e_eql (b := true) hk rfl rfl (by simp) _) fun a hk => ?_
  refine d0 13 hk rfl (chkN_ok (by as_aux_lemma => kernel_rfl)) rfl rfl rfl rfl (fun _ => e_pickT hk rfl rfl _) fun a hk => ?_
  refine d0 14 hk rfl (chkN_ok (by as_aux_lemma => kernel_rfl)) rfl rfl rfl rfl (fun _ => e_move hk rfl _) fun a hk => ?_
  refine d0 15 hk rfl (chkN_ok (by as_aux_lemma => kernel_rfl)) rfl rfl rfl rfl (fun _ => e_move hk rfl _) fun a hk => ?_
  refine d0 16 hk rfl (chkN_ok (by as_aux_lemma => kernel_rfl)) rfl rfl rfl rfl (fun _ => e_idxS1 0 hk rfl rfl Tryd.underlying45 sz3 rfl (by decide) _) fun a hk => ?_
  refine d1 17 hk rfl (chkN_ok (by as_aux_lemma => kernel_rfl)) rfl rfl rfl rfl (r_load (v := I 0) hk rfl Tryd.underlying3 rfl h_bd (by rw [show (0 + (0 : Nat)) = 0 + 0 from rfl, digI_arr zD 0 (by decide), dz0]; rfl)) fun a hk => ?_
  refine d0 18 hk rfl (chkN_ok (by as_aux_lemma => kernel_rfl)) rfl rfl rfl rfl (fun _ => e_eql (b := true) hk rfl rfl (by simp) _) fun a hk => ?_
  refine d0 19 hk rfl (chkN_ok (by as_aux_lemma => kernel_rfl)) rfl rfl rfl rfl (fun _ => e_pickT hk rfl rfl _) fun a hk => ?_
  refine d0 20 hk rfl (chkN_ok (by as_aux_lemma => kernel_rfl)) rfl rfl rfl rfl (fun _ => e_move hk rfl _) fun a hk => ?_
  refine d0 21 hk rfl (chkN_ok (by as_aux_lemma => kernel_rfl)) rfl rfl rfl rfl (fun _ => e_move hk rfl _) fun a hk => ?_
  refine d0 22 hk rfl (chkN_ok (by as_aux_lemma => kernel_rfl)) rfl rfl rfl rfl (fun _ => e_idxS1 64 hk rfl rfl Tryd.underlying45 sz3 rfl (by decide) _) fun a hk => ?_
  refine d1 23 hk rfl (chkN_ok (by as_aux_lemma => kernel_rfl)) rfl rfl rfl rfl (r_load (v := I 3) hk rfl Tryd.underlying3 rfl h_bd (by rw [show (0 + (64 : Nat)) = 0 + 64 from rfl, digI_arr zD 64 (by decide), dz64]; rfl)) fun a hk => ?_
  refine d0 24 hk rfl (chkN_ok (by as_aux_lemma => kernel_rfl)) rfl rfl rfl rfl (fun _ => e_eql (b := true) hk rfl rfl (by simp) _) fun a hk => ?_
  refine d0 25 hk rfl (chkN_ok (by as_aux_lemma => kernel_rfl)) rfl rfl rfl rfl (fun _ => e_pickT hk rfl rfl _) fun a hk => ?_
  refine d0 26 hk rfl (chkN_ok (by as_aux_lemma => kernel_rfl)) rfl rfl rfl rfl (fun _ => e_move hk rfl _) fun a hk => ?_
  refine d0 27 hk rfl (chkN_ok (by as_aux_lemma => kernel_rfl)) rfl rfl rfl rfl (fun _ => e_move hk rfl _) fun a hk => ?_
  refine d0 28 hk rfl (chkN_ok (by as_aux_lemma => kernel_rfl)) rfl rfl rfl rfl (fun _ => e_idxS1 67 hk rfl rfl Tryd.underlying45 sz3 rfl (by decide) _) fun a hk => ?_
  refine d1 29 hk rfl (chkN_ok (by as_aux_lemma => kernel_rfl)) rfl rfl rfl rfl (r_load (v := I 0) hk rfl Tryd.underlying3 rfl h_bd (by rw [show (0 + (67 : Nat)) = 0 + 67 from rfl, digI_arr zD 67 (by decide), dz67]; rfl)) fun a hk => ?_
  refine d0 30 hk rfl (chkN_ok (by as_aux_lemma => kernel_rfl)) rfl rfl rfl rfl (fun _ => e_eql (b := true) hk rfl rfl (by simp) _) fun a hk => ?_
  refine d0 31 hk rfl (chkN_ok (by as_aux_lemma => kernel_rfl)) rfl rfl rfl rfl (fun _ => e_pickT hk rfl rfl _) fun a hk => ?_
  refine d0 32 hk rfl (chkN_ok (by as_aux_lemma => kernel_rfl)) rfl rfl rfl rfl (fun _ => e_move hk rfl _) fun a hk => ?_
  refine d1 33 hk rfl (chkN_ok (by as_aux_lemma => kernel_rfl)) rfl rfl rfl rfl (r_ld44 hk rfl h_b2 hp) fun a hk => ?_
  refine da4 34 hk rfl (chkN_ok (by as_aux_lemma => kernel_rfl)) rfl rfl hS (a_call hk rfl rfl (c_fn hk rfl ok63) (c63 p 1 [109] _ (hG.ext hB) hp ⟨by decide, by decide⟩ (by decide)) ?_)
  rintro e w ⟨rfl, hE⟩
  refine ⟨_, rfl, fun a hk => ⟨ext_at hE hS, ?_⟩⟩
  have hS := ext_at hE hS
  have h_b2 := ext_at hE h_b2
  have h_b12 := ext_at hE h_b12
  have h_bd := ext_at hE h_bd
  have hB := ext_trans hB hE
  rw [hx1] at hk
  clear hE
  refine d3 35 hk rfl (chkN_ok (by as_aux_lemma => kernel_rfl)) rfl rfl rfl rfl hS (fun w hS => r_ld44 hk rfl hS hp) fun a hk => ?_
  refine da 36 hk rfl (chkN_ok (by as_aux_lemma => kernel_rfl)) rfl rfl (a_call hk rfl rfl (c_fn hk rfl ok63) (c63 p 0 [109] _ (hG.ext hB) hp ⟨by decide, by decide⟩ (by decide)) ?_)
  rintro e w ⟨rfl, hE⟩
  refine ⟨_, rfl, fun a hk => ?_⟩
  have hS := ext_at hE hS
  have h_b2 := ext_at hE h_b2
  have h_b12 := ext_at hE h_b12
  have h_bd := ext_at hE h_bd
  have hB := ext_trans hB hE
  rw [hx0] at hk
  clear hE
  refine d0 37 hk rfl (chkN_ok (by as_aux_lemma => kernel_rfl)) rfl rfl rfl rfl (fun _ => e_neA (l := x1) (r := x0) (b := true) hk rfl rfl Tryd.underlying44 Tryd.underlying5 sz5 hl1 hl0 eg44 (by rw [decide_eq_false hne]; rfl) _) fun a hk => ?_
  refine d0 38 hk rfl (chkN_ok (by as_aux_lemma => kernel_rfl)) rfl rfl rfl rfl (fun _ => e_pickT hk rfl rfl _) fun a hk => ?_
  refine d0 39 hk rfl (chkN_ok (by as_aux_lemma => kernel_rfl)) rfl rfl rfl rfl (fun _ => e_assign hk rfl _) fun a hk => ?_
  refine okFin (by as_aux_lemma => kernel_rfl) (hK12 _ _ ?_)
  refine wp_ret ?_
  exact ret1 hk rfl rfl ⟨rfl, hB⟩

end Go.Proofs.YtidfbboalbchiaaDoor
