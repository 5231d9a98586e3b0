/- Part 12 of the texts that a claim's last texts stand on: A37. Conditions: those that each theorem names. -/
import Derived.Test.YtidfbboalbchiaaDoorT11
namespace Go.Proofs.YtidfbboalbchiaaDoor
open Go Go.RowKit

theorem rdg_keep {w w1 : World} {ad : Option Addr} {n c : Nat} {s : List (List UInt8)} {b : Nat} {o : Obj} (h : Rdg w ad n c s) (G : Grew w w1 b o) : ∀ w2 w3 o', Rdg w2 ad n c s → Wrote w2 w3 b o' → Rdg w3 ad n c s :=
  fun w2 w3 o' h2 hW => ⟨rd_keep h.1 G w2 w3 o' h2.1 hW, h2.2⟩
def X3 : List (List UInt8) := [[120], [121], [122]]
theorem lvX : Lv X3 := ⟨by decide, by simp [X3]⟩
theorem hlf3 : hlf 3 = 2 := hlf_is (j := 1) (.inr (by decide)) (by decide)
theorem restX : restS 1 2 0 3 = [(0, 1), (2, 3)] := by
  unfold restS
  rw [stops_more (by decide) (by decide), hlf3, stops_more (a := 0) (b := 0 + 2) (by decide) (by decide), show hlf (0 + 2 - 0) = 1 from hlf_is (j := 0) (.inl rfl) (by decide), stops_stop (a := 0) (b := 0 + 1) (by decide), stops_one (a := 0 + 1) (b := 0 + 2) (by decide) (by decide), stops_stop (a := 0 + 2) (b := 3) (by decide)]
  rfl
theorem stepsX : stepsS 2 0 3 = [(0, 2), (2, 3)] := by
  unfold stepsS
  rw [stops_more (by decide) (by decide), hlf3, stops_stop (a := 0) (b := 0 + 2) (by decide), stops_stop (a := 0 + 2) (b := 3) (by decide)]
  rfl
theorem provX : provR X3 1 2 = ⟨3, 1, [rootI X3 0 1, rootI X3 2 3], 0⟩ := by
  have h : provR X3 1 2 = ⟨3, 1, rootsOf X3 (restS 1 2 0 3), 0⟩ := by unfold provR; rw [if_neg (by simp [X3])]; rfl
  rw [h, restX]; rfl
theorem longX : longR X3 2 = ([rootI X3 0 2, rootI X3 2 3], 0) := by
  have h : longR X3 2 = (rootsOf X3 (stepsS 2 0 3), 0) := by unfold longR; rw [if_neg (by simp [X3]), if_neg (by simp [X3])]; rfl
  rw [h, stepsX]; rfl
theorem rs3 {w : World} {b : Nat} {e : TypeId} {fr : Nat × Nat} (h : w.heap[b]? = some (.cells #[Str [120], Str [121], Str [122]] e fr)) : Rs w (some ⟨b, 0, none⟩) 3 3 X3 :=
  Rd.of_block h rfl (Nat.le_refl _) fun i hi => by
    have hi' : i < 3 := hi
    match i, hi' with
    | 0, _ => rfl
    | 1, _ => rfl
    | 2, _ => rfl
theorem rdg_at {w : World} {b o n c : Nat} {s : List (List UInt8)} (h : Rdg w (some ⟨b, o, none⟩) n c s) (i : Nat) (hi : i < n) : w.rangeAt b (o + i * 16) ((s.getD i []).map B) := by
  obtain ⟨b', o', e, hr, _⟩ := h.get i hi
  cases e; exact hr
theorem rdg_fst {w : World} {b o c : Nat} {x y : List UInt8} (h : Rdg w (some ⟨b, o, none⟩) 2 c [x, y]) : w.rangeAt b (o + 0 * 16) (x.map B) := rdg_at h 0 (by decide)
theorem rdg_snd {w : World} {b o c : Nat} {x y : List UInt8} (h : Rdg w (some ⟨b, o, none⟩) 2 c [x, y]) : w.rangeAt b (o + 1 * 16) (y.map B) := rdg_at h 1 (by decide)
theorem checkX : chkR (rootS X3) 3 1 [rootI X3 0 1, rootI X3 2 3] [[121]] = 0 := by
  have h := prove_ok X3 (by decide) 1 2 (by decide) (by decide)
  have e : provR X3 ((1 : Nat) : Int) ((2 : Nat) : Int) = provR X3 1 2 := rfl
  rw [e, provX] at h
  exact h
theorem extX : extR (rootS (X3.take 2)) (rootS X3) 2 3 [rootI X3 0 2, rootI X3 2 3] = 0 := by
  have h := long_ok X3 (by decide) 2 (by decide)
  have e : longR X3 ((2 : Nat) : Int) = longR X3 2 := rfl
  rw [e, longX] at h
  exact h
theorem rootX : rootS X3 = nodeS (rootS (X3.take 2)) (rootI X3 2 3) := by
  have h := rootS_more (ls := X3) (by decide)
  rw [show hlf X3.length = 2 from hlf3] at h
  rw [h]; rfl
theorem leafX : rootS (X3.drop 2) = leafS [122] := rootS_one [122]

theorem factsX : ∃ r1 r2 s2 rX : List UInt8, (r1.length = 16 ∧ r2.length = 16 ∧ s2.length = 16 ∧ rX.length = 16) ∧ rootS X3 = rX ∧ rootS (X3.take 1) = r1 ∧ rootS (X3.take 2) = r2 ∧ rootS (X3.drop 2) = s2 ∧ provR X3 1 2 = ⟨3, 1, [r1, s2], 0⟩ ∧ longR X3 2 = ([r2, s2], 0) ∧ chkR rX 3 1 [r1, s2] [[121]] = 0 ∧ extR r2 rX 2 3 [r2, s2] = 0 ∧ rX = nodeS r2 s2 ∧ s2 = ofD 1 [[122]] ∧ chkR r2 3 1 [r1, s2] [] = 1 := by
  have e1 : rootI X3 0 1 = rootS (X3.take 1) := rootI_pre X3 1
  have e2 : rootI X3 0 2 = rootS (X3.take 2) := rootI_pre X3 2
  have e3 : rootI X3 2 3 = rootS (X3.drop 2) := rootI_suf X3 2
  have hp := provX
  have hl := longX
  have hc := checkX
  have he := extX
  have hr := rootX
  rw [e1, e3] at hp hc
  rw [e2, e3] at hl he
  rw [e3] at hr
  exact ⟨_, _, _, _, ⟨length_rootS _, length_rootS _, length_rootS _, length_rootS _⟩, rfl, rfl, rfl, rfl, hp, hl, hc, he, hr, leafX, if_pos (.inl rfl)⟩
theorem rdg_lt {w : World} {b o n c : Nat} {s : List (List UInt8)} (h : Rdg w (some ⟨b, o, none⟩) n c s) (hn : 0 < n) : b < w.heap.size := by
  obtain ⟨b', o', e, hc⟩ := h.1.2.2 0 _ (digs16_get s h.2 0 0 (by rw [h.len]; exact hn) (by decide))
  cases e
  exact World.block_lt_of_cell? w _ hc

set_option maxRecDepth 4000 in
set_option maxHeartbeats 4000000 in
theorem c53 (w0 : World) (hG : GH w0) : Calls Tryd.prog 53 #[] w0 fun e w' => e = .returned (.bool true) ∧ Ext w0 w' := by
  obtain ⟨r1, r2, s2, rX, ⟨l1, l2, ls2, lX⟩, hrX, hr1, hr2, hs2, hpr, hlo, hchk, hext, hnode, hleaf, hchn⟩ := factsX
  refine start (args := []) 124 Tryd.func53 rfl rfl rfl fun a hk => ?_
  have hB : Ext w0 w0 := Below.refl _ _
  refine wp_seq_k fun K1 hK1 => ?_
  refine wp_region_lit ?_
  refine ls hk rfl rfl rfl (e_assign hk rfl _) fun a hk => ?_
  refine lnil (hK1 _ _ ?_)
  refine wp_seq_k fun K2 hK2 => ?_
  refine wp_region_lit ?_
  refine la hk rfl (a_lit (cells := #[Str [120], Str [121], Str [122]]) (zv := .string ByteArray.empty) (sz := 1) (by_ := 16) hk rfl rfl Tryd.underlying27 el9 (by decide) (by decide) (lit3 _ _ _ _ rfl rfl rfl) rfl fun a w b7 hk G => ?_)
  have hg_b7 : w0.heap.size ≤ b7 := Nat.le_trans hB.size G.ge
  have hB := ext_trans hB G.ext
  have h_b7 := G.at_
  clear G
  refine ls hk rfl rfl rfl (e_assign hk rfl _) fun a hk => ?_
  refine lnil (hK2 _ _ ?_)
  refine wp_seq_k fun K3 hK3 => ?_
  refine wp_region_lit ?_
  refine ls hk rfl rfl rfl (e_move hk rfl _) fun a hk => ?_
  refine ls hk rfl rfl rfl (e_slSto hk rfl rfl Tryd.underlying27 sz9 (by decide) (by decide) _) fun a hk => ?_
  refine la hk rfl (a_call hk rfl rfl (c_fn hk rfl ok46) (c46 (X3.take 2) ⟨by decide, by simp [X3]⟩ _ 3 _ (sub_to (rs3 h_b7) (k := 2) (by decide)) (hG.ext hB)) ?_)
  rintro e w ⟨rfl, hE⟩
  refine ⟨_, rfl, fun a hk => ?_⟩
  have h_b7 := ext_at hE h_b7
  have hB := ext_trans hB hE
  rw [hr2] at hk
  clear hE
  refine la hk rfl (a_alloc hk rfl zr44 fun a w b2 hk G => ?_)
  have n_b7_b2 : b7 ≠ b2 := G.ne h_b7
  have hg_b2 : w0.heap.size ≤ b2 := Nat.le_trans hB.size G.ge
  have h_b7 := ext_at G.ext h_b7
  have hB := ext_trans hB G.ext
  have h_b2 := G.at_
  clear G
  refine la hk rfl (a_st44 (l := r2) hk rfl rfl l2 h_b2 rfl fun a w hk W => ?_)
  have h_b7 := W.keep n_b7_b2 h_b7
  have hB := W.below hB hg_b2
  have h_b2 := W.at_
  clear W
  refine lnil (hK3 _ _ ?_)
  refine wp_seq_k fun K4 hK4 => ?_
  refine wp_region_lit ?_
  refine ls hk rfl rfl rfl (e_move hk rfl _) fun a hk => ?_
  refine la hk rfl (a_call hk rfl rfl (c_fn hk rfl ok48) (c48 X3 lvX (some ⟨b7, 0, none⟩) 3 1 2 _ (rs3 h_b7) (hG.ext hB)) ?_)
  rintro e w ⟨⟨adp, cp, he, hRp, _⟩, hE⟩
  rw [hpr] at he hRp
  have he : e = .returned (.tuple #[.agg #[I 3, I 1, .slice adp 2 cp], I 0]) := he
  have hRp : Rdg w adp 2 cp [r1, s2] := hRp
  subst he
  obtain ⟨bpa, opa, rfl, _, _⟩ := hRp.get 0 (by decide)
  refine ⟨_, rfl, fun a hk => ?_⟩
  have h_b7 := ext_at hE h_b7
  have h_b2 := ext_at hE h_b2
  have hB := ext_trans hB hE
  clear hE
  refine ls hk rfl rfl rfl (e_move hk rfl _) fun a hk => ?_
  refine ls hk rfl rfl rfl (e_ext hk rfl rfl _) fun a hk => ?_
  refine ls hk rfl rfl rfl (e_ext hk rfl rfl _) fun a hk => ?_
  refine la hk rfl (a_alloc hk rfl zr71 fun a w b3 hk G => ?_)
  have n_b7_b3 : b7 ≠ b3 := G.ne h_b7
  have n_b2_b3 : b2 ≠ b3 := G.ne h_b2
  have k_hRp_b3 := rdg_keep hRp G
  have hg_b3 : w0.heap.size ≤ b3 := Nat.le_trans hB.size G.ge
  have h_b7 := ext_at G.ext h_b7
  have h_b2 := ext_at G.ext h_b2
  have hRp := hRp.ext G.ext
  have hB := ext_trans hB G.ext
  have h_b3 := G.at_
  clear G
  refine la hk rfl (a_storeB (cs' := #[I 3, I 1, .slice (some ⟨bpa, opa, none⟩) 2 cp]) hk rfl rfl (by simp [Value.oneCell']) sz71 h_b3 rfl fun a w hk W => ?_)
  have h_b7 := W.keep n_b7_b3 h_b7
  have h_b2 := W.keep n_b2_b3 h_b2
  have hRp := k_hRp_b3 _ _ _ hRp W
  have hB := W.below hB hg_b3
  have h_b3 := W.at_
  clear W
  refine ls hk rfl rfl rfl (e_assign hk rfl _) fun a hk => ?_
  refine lnil (hK4 _ _ ?_)
  refine wp_seq_k fun K5 hK5 => ?_
  refine wp_region_lit ?_
  refine ls hk rfl rfl rfl (e_move hk rfl _) fun a hk => ?_
  refine la hk rfl (a_call hk rfl rfl (c_fn hk rfl ok50) (c50 X3 lvX (some ⟨b7, 0, none⟩) 3 2 _ (rs3 h_b7) (hG.ext hB)) ?_)
  rintro e w ⟨⟨ads, cs, he, hRs, _⟩, hE⟩
  rw [hlo] at he hRs
  have he : e = .returned (.tuple #[.slice ads 2 cs, I 0]) := he
  have hRs : Rdg w ads 2 cs [r2, s2] := hRs
  subst he
  obtain ⟨bsa, osa, rfl, _, _⟩ := hRs.get 0 (by decide)
  refine ⟨_, rfl, fun a hk => ?_⟩
  have h_b7 := ext_at hE h_b7
  have h_b2 := ext_at hE h_b2
  have hRp := hRp.ext hE
  have h_b3 := ext_at hE h_b3
  have hB := ext_trans hB hE
  clear hE
  refine ls hk rfl rfl rfl (e_move hk rfl _) fun a hk => ?_
  refine ls hk rfl rfl rfl (e_ext hk rfl rfl _) fun a hk => ?_
  refine ls hk rfl rfl rfl (e_ext hk rfl rfl _) fun a hk => ?_
  refine ls hk rfl rfl rfl (e_assign hk rfl _) fun a hk => ?_
  refine ls hk rfl rfl rfl (e_assign hk rfl _) fun a hk => ?_
  refine lnil (hK5 _ _ ?_)
  refine wp_seq_k fun K6 hK6 => ?_
  refine wp_seq_k fun K7 hK7 => ?_
  refine wp_region_lit ?_
  refine ls hk rfl rfl rfl (e_move hk rfl _) fun a hk => ?_
  refine ls hk rfl rfl rfl (e_neq (b := false) hk rfl rfl (by decide) _) fun a hk => ?_
  refine ls hk rfl rfl rfl (e_move hk rfl _) fun a hk => ?_
  refine ls hk rfl rfl rfl (e_move hk rfl _) fun a hk => ?_
  refine ls hk rfl rfl rfl (e_neq (b := false) hk rfl rfl (by decide) _) fun a hk => ?_
  refine ls hk rfl rfl rfl (e_pickF hk rfl rfl _) fun a hk => ?_
  refine ls hk rfl rfl rfl (e_move hk rfl _) fun a hk => ?_
  refine ls hk rfl rfl rfl (e_field (off := 2) hk rfl Tryd.underlying71 rfl rfl nz69 _) fun a hk => ?_
  refine ls hk rfl rfl rfl (r_load hk rfl Tryd.underlying69 rfl h_b3 rfl) fun a hk => ?_
  refine ls hk rfl rfl rfl (e_lenS hk rfl Tryd.underlying69 _) fun a hk => ?_
  refine ls hk rfl rfl rfl (e_neq (b := false) hk rfl rfl (by decide) _) fun a hk => ?_
  refine ls hk rfl rfl rfl (e_pickF hk rfl rfl _) fun a hk => ?_
  refine ls hk rfl rfl rfl (e_move hk rfl _) fun a hk => ?_
  refine ls hk rfl rfl rfl (e_move hk rfl _) fun a hk => ?_
  refine ls hk rfl rfl rfl (e_lenS hk rfl Tryd.underlying69 _) fun a hk => ?_
  refine ls hk rfl rfl rfl (e_neq (b := false) hk rfl rfl (by decide) _) fun a hk => ?_
  refine ls hk rfl rfl rfl (e_pickF hk rfl rfl _) fun a hk => ?_
  refine ls hk rfl rfl rfl (e_move hk rfl _) fun a hk => ?_
  refine ls hk rfl rfl rfl (e_field (off := 0) hk rfl Tryd.underlying71 rfl rfl nz3 _) fun a hk => ?_
  refine ls hk rfl rfl rfl (r_load hk rfl Tryd.underlying3 rfl h_b3 rfl) fun a hk => ?_
  refine ls hk rfl rfl rfl (e_neq (b := false) hk rfl rfl (by decide) _) fun a hk => ?_
  refine ls hk rfl rfl rfl (e_pickF hk rfl rfl _) fun a hk => ?_
  refine ls hk rfl rfl rfl (e_move hk rfl _) fun a hk => ?_
  refine ls hk rfl rfl rfl (e_field (off := 1) hk rfl Tryd.underlying71 rfl rfl nz3 _) fun a hk => ?_
  refine ls hk rfl rfl rfl (r_load hk rfl Tryd.underlying3 rfl h_b3 rfl) fun a hk => ?_
  refine ls hk rfl rfl rfl (e_neq (b := false) hk rfl rfl (by decide) _) fun a hk => ?_
  refine ls hk rfl rfl rfl (e_pickF hk rfl rfl _) fun a hk => ?_
  refine lnil (hK7 _ _ ?_)
  refine cdF hk rfl ?_
  refine wp_skip (hK6 _ _ ?_)
  refine wp_seq_k fun K8 hK8 => ?_
  refine wp_seq_k fun K9 hK9 => ?_
  refine wp_region_ok (fun w => w.heap[b3]? = some (.cells #[I 3, I 1, .slice (some ⟨bpa, opa, none⟩) 2 cp] 71 (0, 0)) ∧ Rdg w (some ⟨bpa, opa, none⟩) 2 cp [r1, s2] ∧ Rdg w (some ⟨bsa, osa, none⟩) 2 cs [r2, s2]) [0, 3, 0, 3, 0, 0, 4, 0, 0, 0, 3, 0, 3, 0, 0, 4, 0, 0, 0, 0, 0, 3, 1, 0, 0, 0, 0, 0, 3, 0, 0, 4, 0, 0] mixed ?_
  have hB := hB.drew
  have h_b7 := ext_at (ext_drew w) h_b7
  have h_b2 := ext_at (ext_drew w) h_b2
  have hRp := hRp.ext (ext_drew w)
  have h_b3 := ext_at (ext_drew w) h_b3
  have hRs := hRs.ext (ext_drew w)
  have hS : (fun w => w.heap[b3]? = some (.cells #[I 3, I 1, .slice (some ⟨bpa, opa, none⟩) 2 cp] 71 (0, 0)) ∧ Rdg w (some ⟨bpa, opa, none⟩) 2 cp [r1, s2] ∧ Rdg w (some ⟨bsa, osa, none⟩) 2 cs [r2, s2]) w.drew := ⟨h_b3, hRp, hRs⟩
  refine d0 0 hk rfl (chkN_ok (by as_aux_lemma => kernel_rfl)) rfl rfl rfl rfl (fun _ => e_field (off := 2) hk rfl Tryd.underlying71 rfl rfl nz69 _) fun a hk => ?_
  refine d3 1 hk rfl (chkN_ok (by as_aux_lemma => kernel_rfl)) rfl rfl rfl rfl hS (fun w hS => r_load hk rfl Tryd.underlying69 rfl hS.1 rfl) fun a hk => ?_
  refine d0 2 hk rfl (chkN_ok (by as_aux_lemma => kernel_rfl)) rfl rfl rfl rfl (fun _ => e_idxSn 0 hk rfl rfl Tryd.underlying69 sz44 rfl (by decide) _) fun a hk => ?_
  refine d3 3 hk rfl (chkN_ok (by as_aux_lemma => kernel_rfl)) rfl rfl rfl rfl hS (fun w hS => r_ldR44 (l := r1) hk rfl (rdg_fst hS.2.1) l1) fun a hk => ?_
  refine d0 4 hk rfl (chkN_ok (by as_aux_lemma => kernel_rfl)) rfl rfl rfl rfl (fun _ => e_move hk rfl _) fun a hk => ?_
  refine d0 5 hk rfl (chkN_ok (by as_aux_lemma => kernel_rfl)) rfl rfl rfl rfl (fun _ => e_slSto hk rfl rfl Tryd.underlying27 sz9 (by decide) (by decide) _) fun a hk => ?_
  refine da4 6 hk rfl (chkN_ok (by as_aux_lemma => kernel_rfl)) rfl rfl hS (a_call hk rfl rfl (c_fn hk rfl ok46) (c46 (X3.take 1) ⟨by decide, by simp [X3]⟩ _ 3 _ (sub_to (rs3 h_b7) (k := 1) (by decide)) (hG.ext hB)) ?_)
  rintro e w ⟨rfl, hE⟩
  refine ⟨_, rfl, fun a hk => ⟨⟨ext_at hE hS.1, hS.2.1.ext hE, hS.2.2.ext hE⟩, ?_⟩⟩
  have hS : (fun w => w.heap[b3]? = some (.cells #[I 3, I 1, .slice (some ⟨bpa, opa, none⟩) 2 cp] 71 (0, 0)) ∧ Rdg w (some ⟨bpa, opa, none⟩) 2 cp [r1, s2] ∧ Rdg w (some ⟨bsa, osa, none⟩) 2 cs [r2, s2]) w := ⟨ext_at hE hS.1, hS.2.1.ext hE, hS.2.2.ext hE⟩
  have h_b7 := ext_at hE h_b7
  have h_b2 := ext_at hE h_b2
  have hRp := hRp.ext hE
  have h_b3 := ext_at hE h_b3
  have hRs := hRs.ext hE
  have hB := ext_trans hB hE
  rw [hr1] at hk
  clear hE
  refine d0 7 hk rfl (chkN_ok (by as_aux_lemma => kernel_rfl)) rfl rfl rfl rfl (fun _ => e_neA (l := r1) (r := r1) (b := false) hk rfl rfl Tryd.underlying44 Tryd.underlying5 sz5 l1 l1 eg44 (by rw [decide_eq_true rfl]; rfl) _) fun a hk => ?_
  refine d0 8 hk rfl (chkN_ok (by as_aux_lemma => kernel_rfl)) rfl rfl rfl rfl (fun _ => e_move hk rfl _) fun a hk => ?_
  refine d0 9 hk rfl (chkN_ok (by as_aux_lemma => kernel_rfl)) rfl rfl rfl rfl (fun _ => e_field (off := 2) hk rfl Tryd.underlying71 rfl rfl nz69 _) fun a hk => ?_
  refine d3 10 hk rfl (chkN_ok (by as_aux_lemma => kernel_rfl)) rfl rfl rfl rfl hS (fun w hS => r_load hk rfl Tryd.underlying69 rfl hS.1 rfl) fun a hk => ?_
  refine d0 11 hk rfl (chkN_ok (by as_aux_lemma => kernel_rfl)) rfl rfl rfl rfl (fun _ => e_idxSn 1 hk rfl rfl Tryd.underlying69 sz44 rfl (by decide) _) fun a hk => ?_
  refine d3 12 hk rfl (chkN_ok (by as_aux_lemma => kernel_rfl)) rfl rfl rfl rfl hS (fun w hS => r_ldR44 (l := s2) hk rfl (rdg_snd hS.2.1) ls2) fun a hk => ?_
  refine d0 13 hk rfl (chkN_ok (by as_aux_lemma => kernel_rfl)) rfl rfl rfl rfl (fun _ => e_move hk rfl _) fun a hk => ?_
  refine d0 14 hk rfl (chkN_ok (by as_aux_lemma => kernel_rfl)) rfl rfl rfl rfl (fun _ => e_slSfrom hk rfl rfl Tryd.underlying27 sz9 (by decide) (by decide) _) fun a hk => ?_
  refine da4 15 hk rfl (chkN_ok (by as_aux_lemma => kernel_rfl)) rfl rfl hS (a_call hk rfl rfl (c_fn hk rfl ok46) (c46 (X3.drop 2) ⟨by decide, by simp [X3]⟩ _ (3 - 2) _ (sub_from (rs3 h_b7) (k := 2) (by decide)) (hG.ext hB)) ?_)
  rintro e w ⟨rfl, hE⟩
  refine ⟨_, rfl, fun a hk => ⟨⟨ext_at hE hS.1, hS.2.1.ext hE, hS.2.2.ext hE⟩, ?_⟩⟩
  have hS : (fun w => w.heap[b3]? = some (.cells #[I 3, I 1, .slice (some ⟨bpa, opa, none⟩) 2 cp] 71 (0, 0)) ∧ Rdg w (some ⟨bpa, opa, none⟩) 2 cp [r1, s2] ∧ Rdg w (some ⟨bsa, osa, none⟩) 2 cs [r2, s2]) w := ⟨ext_at hE hS.1, hS.2.1.ext hE, hS.2.2.ext hE⟩
  have h_b7 := ext_at hE h_b7
  have h_b2 := ext_at hE h_b2
  have hRp := hRp.ext hE
  have h_b3 := ext_at hE h_b3
  have hRs := hRs.ext hE
  have hB := ext_trans hB hE
  rw [hs2] at hk
  clear hE
  refine d0 16 hk rfl (chkN_ok (by as_aux_lemma => kernel_rfl)) rfl rfl rfl rfl (fun _ => e_neA (l := s2) (r := s2) (b := false) hk rfl rfl Tryd.underlying44 Tryd.underlying5 sz5 ls2 ls2 eg44 (by rw [decide_eq_true rfl]; rfl) _) fun a hk => ?_
  refine d0 17 hk rfl (chkN_ok (by as_aux_lemma => kernel_rfl)) rfl rfl rfl rfl (fun _ => e_pickF hk rfl rfl _) fun a hk => ?_
  refine d0 18 hk rfl (chkN_ok (by as_aux_lemma => kernel_rfl)) rfl rfl rfl rfl (fun _ => e_move hk rfl _) fun a hk => ?_
  refine d0 19 hk rfl (chkN_ok (by as_aux_lemma => kernel_rfl)) rfl rfl rfl rfl (fun _ => e_move hk rfl _) fun a hk => ?_
  refine d0 20 hk rfl (chkN_ok (by as_aux_lemma => kernel_rfl)) rfl rfl rfl rfl (fun _ => e_idxSn 0 hk rfl rfl Tryd.underlying69 sz44 rfl (by decide) _) fun a hk => ?_
  refine d3 21 hk rfl (chkN_ok (by as_aux_lemma => kernel_rfl)) rfl rfl rfl rfl hS (fun w hS => r_ldR44 (l := r2) hk rfl (rdg_fst hS.2.2) l2) fun a hk => ?_
  refine d1 22 hk rfl (chkN_ok (by as_aux_lemma => kernel_rfl)) rfl rfl rfl rfl (r_ld44 hk rfl h_b2 (by simp [*])) fun a hk => ?_
  refine d0 23 hk rfl (chkN_ok (by as_aux_lemma => kernel_rfl)) rfl rfl rfl rfl (fun _ => e_neA (l := r2) (r := r2) (b := false) hk rfl rfl Tryd.underlying44 Tryd.underlying5 sz5 l2 l2 eg44 (by rw [decide_eq_true rfl]; rfl) _) fun a hk => ?_
  refine d0 24 hk rfl (chkN_ok (by as_aux_lemma => kernel_rfl)) rfl rfl rfl rfl (fun _ => e_pickF hk rfl rfl _) fun a hk => ?_
  refine d0 25 hk rfl (chkN_ok (by as_aux_lemma => kernel_rfl)) rfl rfl rfl rfl (fun _ => e_move hk rfl _) fun a hk => ?_
  refine d0 26 hk rfl (chkN_ok (by as_aux_lemma => kernel_rfl)) rfl rfl rfl rfl (fun _ => e_move hk rfl _) fun a hk => ?_
  refine d0 27 hk rfl (chkN_ok (by as_aux_lemma => kernel_rfl)) rfl rfl rfl rfl (fun _ => e_idxSn 1 hk rfl rfl Tryd.underlying69 sz44 rfl (by decide) _) fun a hk => ?_
  refine d3 28 hk rfl (chkN_ok (by as_aux_lemma => kernel_rfl)) rfl rfl rfl rfl hS (fun w hS => r_ldR44 (l := s2) hk rfl (rdg_snd hS.2.2) ls2) fun a hk => ?_
  refine d0 29 hk rfl (chkN_ok (by as_aux_lemma => kernel_rfl)) rfl rfl rfl rfl (fun _ => e_move hk rfl _) fun a hk => ?_
  refine d0 30 hk rfl (chkN_ok (by as_aux_lemma => kernel_rfl)) rfl rfl rfl rfl (fun _ => e_slSfrom hk rfl rfl Tryd.underlying27 sz9 (by decide) (by decide) _) fun a hk => ?_
  refine da4 31 hk rfl (chkN_ok (by as_aux_lemma => kernel_rfl)) rfl rfl hS (a_call hk rfl rfl (c_fn hk rfl ok46) (c46 (X3.drop 2) ⟨by decide, by simp [X3]⟩ _ (3 - 2) _ (sub_from (rs3 h_b7) (k := 2) (by decide)) (hG.ext hB)) ?_)
  rintro e w ⟨rfl, hE⟩
  refine ⟨_, rfl, fun a hk => ⟨⟨ext_at hE hS.1, hS.2.1.ext hE, hS.2.2.ext hE⟩, ?_⟩⟩
  have hS : (fun w => w.heap[b3]? = some (.cells #[I 3, I 1, .slice (some ⟨bpa, opa, none⟩) 2 cp] 71 (0, 0)) ∧ Rdg w (some ⟨bpa, opa, none⟩) 2 cp [r1, s2] ∧ Rdg w (some ⟨bsa, osa, none⟩) 2 cs [r2, s2]) w := ⟨ext_at hE hS.1, hS.2.1.ext hE, hS.2.2.ext hE⟩
  have h_b7 := ext_at hE h_b7
  have h_b2 := ext_at hE h_b2
  have hRp := hRp.ext hE
  have h_b3 := ext_at hE h_b3
  have hRs := hRs.ext hE
  have hB := ext_trans hB hE
  rw [hs2] at hk
  clear hE
  refine d0 32 hk rfl (chkN_ok (by as_aux_lemma => kernel_rfl)) rfl rfl rfl rfl (fun _ => e_neA (l := s2) (r := s2) (b := false) hk rfl rfl Tryd.underlying44 Tryd.underlying5 sz5 ls2 ls2 eg44 (by rw [decide_eq_true rfl]; rfl) _) fun a hk => ?_
  refine d0 33 hk rfl (chkN_ok (by as_aux_lemma => kernel_rfl)) rfl rfl rfl rfl (fun _ => e_pickF hk rfl rfl _) fun a hk => ?_
  refine okFin (by as_aux_lemma => kernel_rfl) (hK9 _ _ ?_)
  refine cdF hk rfl ?_
  refine wp_skip (hK8 _ _ ?_)
  refine wp_seq_k fun K10 hK10 => ?_
  refine wp_region_ok (fun w => w.heap[b3]? = some (.cells #[I 3, I 1, .slice (some ⟨bpa, opa, none⟩) 2 cp] 71 (0, 0)) ∧ w.heap[b2]? = some (.cells (r2.map B).toArray 44 (0, 0))) [2, 2, 2, 2, 2, 2, 2, 2, 2, 2, 2, 2, 2, 2, 2, 2, 2, 2, 0, 0, 0, 4, 3, 0, 0, 2, 0, 0, 0, 3, 0, 4, 0, 2, 0, 0, 0, 1, 1, 2, 0, 0, 0] mixed ?_
  have hB := hB.drew
  have h_b7 := ext_at (ext_drew w) h_b7
  have h_b2 := ext_at (ext_drew w) h_b2
  have hRp := hRp.ext (ext_drew w)
  have h_b3 := ext_at (ext_drew w) h_b3
  have hRs := hRs.ext (ext_drew w)
  have hS : (fun w => w.heap[b3]? = some (.cells #[I 3, I 1, .slice (some ⟨bpa, opa, none⟩) 2 cp] 71 (0, 0)) ∧ w.heap[b2]? = some (.cells (r2.map B).toArray 44 (0, 0))) w.drew := ⟨h_b3, h_b2⟩
  refine okFront (fun k => Nat.blt k 18) (fun d a w => ∃ v0 v1 v2 v3 v4 v5 v6 v7 v8 v9 v10 v11 v12 v13 v14 v15 v16 v17 : Value, Kn a 124 [(82, v0), (83, v1), (84, v2), (85, v3), (86, v4), (87, v5), (88, v6), (89, v7), (90, v8), (91, v9), (92, v10), (93, v11), (94, v12), (95, v13), (96, v14), (97, v15), (98, v16), (99, v17), (1, Value.slice (some ⟨b7, 0, none⟩) 3 3), (2, .pointer (some ⟨b2, 0, none⟩)), (3, .pointer (some ⟨b3, 0, none⟩)), (5, Value.slice (some ⟨bsa, osa, none⟩) 2 cs)] ∧ (Below w0.heap.size w0 w) ∧ (w.heap[b2]? = some (.cells (r2.map B).toArray 44 (0, 0))) ∧ (w.heap[b3]? = some (.cells #[I 3, I 1, .slice (some ⟨bpa, opa, none⟩) 2 cp] 71 (0, 0))) ∧ (w.heap[b7]? = some (.cells #[Str [120], Str [121], Str [122]] 9 (0, 0))) ∧ (Rdg w (some ⟨bpa, opa, none⟩) 2 cp [r1, s2]) ∧ (Rdg w (some ⟨bsa, osa, none⟩) 2 cs [r2, s2]) ∧ (d 0 = true → v0 = Value.slice (some ⟨b7, 0, none⟩) 3 3) ∧ (d 1 = true → v1 = D rX) ∧ (d 2 = true → v2 = D r2) ∧ (d 3 = true → v3 = Str r2) ∧ (d 4 = true → v4 = Value.slice (some ⟨bsa, osa, none⟩) 2 cs) ∧ (d 5 = true → v5 = Value.pointer (some ⟨bsa, osa + 1 * 16, none⟩)) ∧ (d 6 = true → v6 = D s2) ∧ (d 7 = true → v7 = Str s2) ∧ (d 8 = true → ∃ b, v8 = .slice (some ⟨b, 0, none⟩) 2 2 ∧ w.heap[b]? = some (.cells #[Str r2, Str s2] 9 (0, 0))) ∧ (d 9 = true → v9 = D (nodeS r2 s2)) ∧ (d 10 = true → v10 = Value.bool true) ∧ (d 11 = true → v11 = Value.bool true) ∧ (d 12 = true → v12 = Value.slice (some ⟨b7, 0, none⟩) 3 3) ∧ (d 13 = true → v13 = Value.slice (if 3 = 2 then some ⟨b7, 0, none⟩ else (some ⟨b7, 0, none⟩ : Option Addr).map (·.add (2 * 1))) (3 - 2) (3 - 2)) ∧ (d 14 = true → v14 = D s2) ∧ (d 15 = true → ∃ b, v15 = .slice (some ⟨b, 0, none⟩) 1 1 ∧ w.heap[b]? = some (.cells #[Str [122]] 9 (0, 0))) ∧ (d 16 = true → v16 = D s2) ∧ (d 17 = true → v17 = Value.bool true)) 25 (frontN_ok (by as_aux_lemma => kernel_rfl)) (fun k hk => Nat.lt_of_lt_of_le (blt_lt hk) (by decide)) ⟨_, _, _, _, _, _, _, _, _, _, _, _, _, _, _, _, _, _, ((((((((((((((((((hk.own 99).own 98).own 97).own 96).own 95).own 94).own 93).own 92).own 91).own 90).own 89).own 88).own 87).own 86).own 85).own 84).own 83).own 82).sub _ ⟨rfl, rfl, rfl, rfl, rfl, rfl, rfl, rfl, rfl, rfl, rfl, rfl, rfl, rfl, rfl, rfl, rfl, rfl, rfl, rfl, rfl, rfl, trivial⟩, hB, h_b2, h_b3, h_b7, hRp, hRs, fun h => noF h, fun h => noF h, fun h => noF h, fun h => noF h, fun h => noF h, fun h => noF h, fun h => noF h, fun h => noF h, fun h => noF h, fun h => noF h, fun h => noF h, fun h => noF h, fun h => noF h, fun h => noF h, fun h => noF h, fun h => noF h, fun h => noF h, fun h => noF h⟩ (fun a w hJ => ?_) ?_
  · obtain ⟨v0, v1, v2, v3, v4, v5, v6, v7, v8, v9, v10, v11, v12, v13, v14, v15, v16, v17, hk, hB, h_b2, h_b3, h_b7, hRp, hRs, f0, f1, f2, f3, f4, f5, f6, f7, f8, f9, f10, f11, f12, f13, f14, f15, f16, f17⟩ := hJ
    have p0 := f0 rfl
    have p1 := f1 rfl
    have p2 := f2 rfl
    have p3 := f3 rfl
    have p4 := f4 rfl
    have p5 := f5 rfl
    have p6 := f6 rfl
    have p7 := f7 rfl
    have p8 := f8 rfl
    have p9 := f9 rfl
    have p10 := f10 rfl
    have p11 := f11 rfl
    have p12 := f12 rfl
    have p13 := f13 rfl
    have p14 := f14 rfl
    have p15 := f15 rfl
    have p16 := f16 rfl
    have p17 := f17 rfl
    subst p11 p17
    clear p0 p1 p2 p3 p4 p5 p6 p7 p8 p9 p10 p12 p13 p14 p15 p16
    have hS : w.heap[b3]? = some (.cells #[I 3, I 1, .slice (some ⟨bpa, opa, none⟩) 2 cp] 71 (0, 0)) ∧ w.heap[b2]? = some (.cells (r2.map B).toArray 44 (0, 0)) := ⟨h_b3, h_b2⟩
    refine d0 18 hk rfl (chkN_ok (by as_aux_lemma => kernel_rfl)) rfl rfl rfl rfl (fun _ => e_pickT hk rfl rfl _) fun a hk => ?_
    refine d0 19 hk rfl (chkN_ok (by as_aux_lemma => kernel_rfl)) rfl rfl rfl rfl (fun _ => e_move hk rfl _) fun a hk => ?_
    refine d0 20 hk rfl (chkN_ok (by as_aux_lemma => kernel_rfl)) rfl rfl rfl rfl (fun _ => e_move hk rfl _) fun a hk => ?_
    refine da4 21 hk rfl (chkN_ok (by as_aux_lemma => kernel_rfl)) rfl rfl hS (a_call hk rfl rfl (c_fn hk rfl ok46) (c46 X3 lvX _ 3 _ (rs3 h_b7) (hG.ext hB)) ?_)
    rintro e w ⟨rfl, hE⟩
    refine ⟨_, rfl, fun a hk => ⟨⟨ext_at hE hS.1, ext_at hE hS.2⟩, ?_⟩⟩
    have hS : (fun w => w.heap[b3]? = some (.cells #[I 3, I 1, .slice (some ⟨bpa, opa, none⟩) 2 cp] 71 (0, 0)) ∧ w.heap[b2]? = some (.cells (r2.map B).toArray 44 (0, 0))) w := ⟨ext_at hE hS.1, ext_at hE hS.2⟩
    have h_b7 := ext_at hE h_b7
    have h_b2 := ext_at hE h_b2
    have hRp := hRp.ext hE
    have h_b3 := ext_at hE h_b3
    have hRs := hRs.ext hE
    have hB := ext_trans hB hE
    rw [hrX] at hk
    clear hE
    refine d3 22 hk rfl (chkN_ok (by as_aux_lemma => kernel_rfl)) rfl rfl rfl rfl hS (fun w hS => r_loadB hk rfl hS.1 Tryd.underlying71 rfl sz71) fun a hk => ?_
    refine d0 23 hk rfl (chkN_ok (by as_aux_lemma => kernel_rfl)) rfl rfl rfl rfl (fun _ => e_move hk rfl _) fun a hk => ?_
    refine d0 24 hk rfl (chkN_ok (by as_aux_lemma => kernel_rfl)) rfl rfl rfl rfl (fun _ => e_slS hk rfl rfl rfl Tryd.underlying27 sz9 (by decide) (by decide) (by decide) _) fun a hk => ?_
    refine da 25 hk rfl (chkN_ok (by as_aux_lemma => kernel_rfl)) rfl rfl (a_call hk rfl rfl (c_fn hk rfl ok55) (c55 rX lX 3 1 [r1, s2] [[121]] ⟨by decide, by simp⟩ (some ⟨bpa, opa, none⟩) _ cp (3 - 1) _ hRp (fun b o e => by cases e; exact rdg_lt hRp (by decide)) (by simp) (sub_mid (rs3 h_b7) (i := 1) (j := 2) (by decide) (by decide)) (fun b o e => by cases e; exact heap_lt h_b7) (hG.ext hB) ⟨by decide, by decide⟩ ⟨by decide, by decide⟩) ?_)
    rintro e w ⟨rfl, hE⟩
    refine ⟨_, rfl, fun a hk => ?_⟩
    have hS : (fun w => w.heap[b3]? = some (.cells #[I 3, I 1, .slice (some ⟨bpa, opa, none⟩) 2 cp] 71 (0, 0)) ∧ w.heap[b2]? = some (.cells (r2.map B).toArray 44 (0, 0))) w := ⟨ext_at hE hS.1, ext_at hE hS.2⟩
    have h_b7 := ext_at hE h_b7
    have h_b2 := ext_at hE h_b2
    have hRp := hRp.ext hE
    have h_b3 := ext_at hE h_b3
    have hRs := hRs.ext hE
    have hB := ext_trans hB hE
    rw [hchk] at hk
    clear hE
    refine d0 26 hk rfl (chkN_ok (by as_aux_lemma => kernel_rfl)) rfl rfl rfl rfl (fun _ => e_eql (b := true) hk rfl rfl (by decide) _) fun a hk => ?_
    refine d0 27 hk rfl (chkN_ok (by as_aux_lemma => kernel_rfl)) rfl rfl rfl rfl (fun _ => e_pickT hk rfl rfl _) fun a hk => ?_
    refine d0 28 hk rfl (chkN_ok (by as_aux_lemma => kernel_rfl)) rfl rfl rfl rfl (fun _ => e_move hk rfl _) fun a hk => ?_
    refine d3 29 hk rfl (chkN_ok (by as_aux_lemma => kernel_rfl)) rfl rfl rfl rfl hS (fun w hS => r_ld44 hk rfl hS.2 l2) fun a hk => ?_
    refine d0 30 hk rfl (chkN_ok (by as_aux_lemma => kernel_rfl)) rfl rfl rfl rfl (fun _ => e_move hk rfl _) fun a hk => ?_
    refine da4 31 hk rfl (chkN_ok (by as_aux_lemma => kernel_rfl)) rfl rfl hS (a_call hk rfl rfl (c_fn hk rfl ok46) (c46 X3 lvX _ 3 _ (rs3 h_b7) (hG.ext hB)) ?_)
    rintro e w ⟨rfl, hE⟩
    refine ⟨_, rfl, fun a hk => ⟨⟨ext_at hE hS.1, ext_at hE hS.2⟩, ?_⟩⟩
    have hS : (fun w => w.heap[b3]? = some (.cells #[I 3, I 1, .slice (some ⟨bpa, opa, none⟩) 2 cp] 71 (0, 0)) ∧ w.heap[b2]? = some (.cells (r2.map B).toArray 44 (0, 0))) w := ⟨ext_at hE hS.1, ext_at hE hS.2⟩
    have h_b7 := ext_at hE h_b7
    have h_b2 := ext_at hE h_b2
    have hRp := hRp.ext hE
    have h_b3 := ext_at hE h_b3
    have hRs := hRs.ext hE
    have hB := ext_trans hB hE
    rw [hrX] at hk
    clear hE
    refine d0 32 hk rfl (chkN_ok (by as_aux_lemma => kernel_rfl)) rfl rfl rfl rfl (fun _ => e_move hk rfl _) fun a hk => ?_
    refine da 33 hk rfl (chkN_ok (by as_aux_lemma => kernel_rfl)) rfl rfl (a_call hk rfl rfl (c_fn hk rfl ok57) (c57 r2 rX l2 lX 2 3 [r2, s2] (some ⟨bsa, osa, none⟩) cs _ hRs (fun b o e => by cases e; exact rdg_lt hRs (by decide)) (by simp) (hG.ext hB) ⟨by decide, by decide⟩ ⟨by decide, by decide⟩) ?_)
    rintro e w ⟨rfl, hE⟩
    refine ⟨_, rfl, fun a hk => ?_⟩
    have hS : (fun w => w.heap[b3]? = some (.cells #[I 3, I 1, .slice (some ⟨bpa, opa, none⟩) 2 cp] 71 (0, 0)) ∧ w.heap[b2]? = some (.cells (r2.map B).toArray 44 (0, 0))) w := ⟨ext_at hE hS.1, ext_at hE hS.2⟩
    have h_b7 := ext_at hE h_b7
    have h_b2 := ext_at hE h_b2
    have hRp := hRp.ext hE
    have h_b3 := ext_at hE h_b3
    have hRs := hRs.ext hE
    have hB := ext_trans hB hE
    rw [hext] at hk
    clear hE
    refine d0 34 hk rfl (chkN_ok (by as_aux_lemma => kernel_rfl)) rfl rfl rfl rfl (fun _ => e_eql (b := true) hk rfl rfl (by decide) _) fun a hk => ?_
    refine d0 35 hk rfl (chkN_ok (by as_aux_lemma => kernel_rfl)) rfl rfl rfl rfl (fun _ => e_pickT hk rfl rfl _) fun a hk => ?_
    refine d0 36 hk rfl (chkN_ok (by as_aux_lemma => kernel_rfl)) rfl rfl rfl rfl (fun _ => e_move hk rfl _) fun a hk => ?_
    refine d1 37 hk rfl (chkN_ok (by as_aux_lemma => kernel_rfl)) rfl rfl rfl rfl (r_ld44 hk rfl h_b2 l2) fun a hk => ?_
    refine d1 38 hk rfl (chkN_ok (by as_aux_lemma => kernel_rfl)) rfl rfl rfl rfl (r_loadB hk rfl h_b3 Tryd.underlying71 rfl sz71) fun a hk => ?_
    refine da 39 hk rfl (chkN_ok (by as_aux_lemma => kernel_rfl)) rfl rfl (a_call hk rfl rfl (c_fn hk rfl ok55) (c55 r2 l2 3 1 [r1, s2] [] ⟨by decide, by simp⟩ (some ⟨bpa, opa, none⟩) none cp 0 _ hRp (fun b o e => by cases e; exact rdg_lt hRp (by decide)) (by simp) rd_none (fun b o e => by cases e) (hG.ext hB) ⟨by decide, by decide⟩ ⟨by decide, by decide⟩) ?_)
    rintro e w ⟨rfl, hE⟩
    refine ⟨_, rfl, fun a hk => ?_⟩
    have hS : (fun w => w.heap[b3]? = some (.cells #[I 3, I 1, .slice (some ⟨bpa, opa, none⟩) 2 cp] 71 (0, 0)) ∧ w.heap[b2]? = some (.cells (r2.map B).toArray 44 (0, 0))) w := ⟨ext_at hE hS.1, ext_at hE hS.2⟩
    have h_b7 := ext_at hE h_b7
    have h_b2 := ext_at hE h_b2
    have hRp := hRp.ext hE
    have h_b3 := ext_at hE h_b3
    have hRs := hRs.ext hE
    have hB := ext_trans hB hE
    rw [hchn] at hk
    clear hE
    refine d0 40 hk rfl (chkN_ok (by as_aux_lemma => kernel_rfl)) rfl rfl rfl rfl (fun _ => e_eql (b := true) hk rfl rfl (by decide) _) fun a hk => ?_
    refine d0 41 hk rfl (chkN_ok (by as_aux_lemma => kernel_rfl)) rfl rfl rfl rfl (fun _ => e_pickT hk rfl rfl _) fun a hk => ?_
    refine d0 42 hk rfl (chkN_ok (by as_aux_lemma => kernel_rfl)) rfl rfl rfl rfl (fun _ => e_assign hk rfl _) fun a hk => ?_
    refine okFin (by as_aux_lemma => kernel_rfl) (hK10 _ _ ?_)
    refine wp_ret ?_
    exact ret1 hk rfl rfl ⟨rfl, hB⟩
  refine ⟨?_, ?_, ?_, ?_, ?_, ?_, ?_, ?_, ?_, ?_, ?_, ?_, ?_, ?_, ?_, ?_, ?_, ?_, ?_, ?_, ?_, ?_, ?_, ?_, ?_, ?_, ?_, ?_, ?_, ?_, ?_, ?_, ?_, ?_, ?_, ?_, ?_, ?_, ?_, ?_, ?_, ?_, ?_, trivial⟩
  · intro _ d a w hr hJ
    obtain ⟨v0, v1, v2, v3, v4, v5, v6, v7, v8, v9, v10, v11, v12, v13, v14, v15, v16, v17, hk, hB, h_b2, h_b3, h_b7, hRp, hRs, f0, f1, f2, f3, f4, f5, f6, f7, f8, f9, f10, f11, f12, f13, f14, f15, f16, f17⟩ := hJ
    refine wa hk rfl rfl ?_
    refine ev_act hk rfl rfl (e_move hk rfl _) fun a hk => ?_
    have new : Value.slice (some ⟨b7, 0, none⟩) 3 3 = Value.slice (some ⟨b7, 0, none⟩) 3 3 := rfl
    exact ⟨_, _, _, _, _, _, _, _, _, _, _, _, _, _, _, _, _, _, hk.sub _ ⟨rfl, rfl, rfl, rfl, rfl, rfl, rfl, rfl, rfl, rfl, rfl, rfl, rfl, rfl, rfl, rfl, rfl, rfl, rfl, rfl, rfl, rfl, trivial⟩, hB, h_b2, h_b3, h_b7, hRp, hRs, fun _ => new, fun h => f1 h, fun h => f2 h, fun h => f3 h, fun h => f4 h, fun h => f5 h, fun h => f6 h, fun h => f7 h, fun h => f8 h, fun h => f9 h, fun h => f10 h, fun h => f11 h, fun h => f12 h, fun h => f13 h, fun h => f14 h, fun h => f15 h, fun h => f16 h, fun h => f17 h⟩
  · intro _ d a w hr hJ
    obtain ⟨v0, v1, v2, v3, v4, v5, v6, v7, v8, v9, v10, v11, v12, v13, v14, v15, v16, v17, hk, hB, h_b2, h_b3, h_b7, hRp, hRs, f0, f1, f2, f3, f4, f5, f6, f7, f8, f9, f10, f11, f12, f13, f14, f15, f16, f17⟩ := hJ
    obtain rfl := f0 (rdy_pre hr 0 (by kernel_rfl))
    refine wa hk rfl rfl ?_
    refine a_call hk rfl rfl (c_fn hk rfl ok46) (c46 X3 lvX _ 3 _ (rs3 h_b7) (hG.ext hB)) ?_
    rintro e w' ⟨rfl, hE⟩
    refine ⟨_, rfl, fun a hk => ?_⟩
    rw [hrX] at hk
    have new : D rX = D rX := rfl
    exact ⟨_, _, _, _, _, _, _, _, _, _, _, _, _, _, _, _, _, _, hk.sub _ ⟨rfl, rfl, rfl, rfl, rfl, rfl, rfl, rfl, rfl, rfl, rfl, rfl, rfl, rfl, rfl, rfl, rfl, rfl, rfl, rfl, rfl, rfl, trivial⟩, ext_trans hB hE, ext_at hE h_b2, ext_at hE h_b3, ext_at hE h_b7, hRp.ext hE, hRs.ext hE, fun h => f0 h, fun _ => new, fun h => f2 h, fun h => f3 h, fun h => f4 h, fun h => f5 h, fun h => f6 h, fun h => f7 h, fun h => by have f := f8 h; exact by obtain ⟨b, e, h⟩ := f; exact ⟨b, e, ext_at hE h⟩, fun h => f9 h, fun h => f10 h, fun h => f11 h, fun h => f12 h, fun h => f13 h, fun h => f14 h, fun h => by have f := f15 h; exact by obtain ⟨b, e, h⟩ := f; exact ⟨b, e, ext_at hE h⟩, fun h => f16 h, fun h => f17 h⟩
  · intro _ d a w hr hJ
    obtain ⟨v0, v1, v2, v3, v4, v5, v6, v7, v8, v9, v10, v11, v12, v13, v14, v15, v16, v17, hk, hB, h_b2, h_b3, h_b7, hRp, hRs, f0, f1, f2, f3, f4, f5, f6, f7, f8, f9, f10, f11, f12, f13, f14, f15, f16, f17⟩ := hJ
    refine wa hk rfl rfl ?_
    refine ev_act hk rfl rfl (r_ld44 hk rfl h_b2 l2) fun a hk => ?_
    have new : D r2 = D r2 := rfl
    exact ⟨_, _, _, _, _, _, _, _, _, _, _, _, _, _, _, _, _, _, hk.sub _ ⟨rfl, rfl, rfl, rfl, rfl, rfl, rfl, rfl, rfl, rfl, rfl, rfl, rfl, rfl, rfl, rfl, rfl, rfl, rfl, rfl, rfl, rfl, trivial⟩, hB, h_b2, h_b3, h_b7, hRp, hRs, fun h => f0 h, fun h => f1 h, fun _ => new, fun h => f3 h, fun h => f4 h, fun h => f5 h, fun h => f6 h, fun h => f7 h, fun h => f8 h, fun h => f9 h, fun h => f10 h, fun h => f11 h, fun h => f12 h, fun h => f13 h, fun h => f14 h, fun h => f15 h, fun h => f16 h, fun h => f17 h⟩
  · intro _ d a w hr hJ
    obtain ⟨v0, v1, v2, v3, v4, v5, v6, v7, v8, v9, v10, v11, v12, v13, v14, v15, v16, v17, hk, hB, h_b2, h_b3, h_b7, hRp, hRs, f0, f1, f2, f3, f4, f5, f6, f7, f8, f9, f10, f11, f12, f13, f14, f15, f16, f17⟩ := hJ
    obtain rfl := f2 (rdy_pre hr 2 (by kernel_rfl))
    refine wa hk rfl rfl ?_
    refine a_call hk rfl rfl (c_fn hk rfl ok59) (c59 r2 _ l2) ?_
    rintro e w' ⟨rfl, hE⟩
    refine ⟨_, rfl, fun a hk => ?_⟩
    skip
    have new : Str r2 = Str r2 := rfl
    exact ⟨_, _, _, _, _, _, _, _, _, _, _, _, _, _, _, _, _, _, hk.sub _ ⟨rfl, rfl, rfl, rfl, rfl, rfl, rfl, rfl, rfl, rfl, rfl, rfl, rfl, rfl, rfl, rfl, rfl, rfl, rfl, rfl, rfl, rfl, trivial⟩, ext_trans hB hE, ext_at hE h_b2, ext_at hE h_b3, ext_at hE h_b7, hRp.ext hE, hRs.ext hE, fun h => f0 h, fun h => f1 h, fun h => f2 h, fun _ => new, fun h => f4 h, fun h => f5 h, fun h => f6 h, fun h => f7 h, fun h => by have f := f8 h; exact by obtain ⟨b, e, h⟩ := f; exact ⟨b, e, ext_at hE h⟩, fun h => f9 h, fun h => f10 h, fun h => f11 h, fun h => f12 h, fun h => f13 h, fun h => f14 h, fun h => by have f := f15 h; exact by obtain ⟨b, e, h⟩ := f; exact ⟨b, e, ext_at hE h⟩, fun h => f16 h, fun h => f17 h⟩
  · intro _ d a w hr hJ
    obtain ⟨v0, v1, v2, v3, v4, v5, v6, v7, v8, v9, v10, v11, v12, v13, v14, v15, v16, v17, hk, hB, h_b2, h_b3, h_b7, hRp, hRs, f0, f1, f2, f3, f4, f5, f6, f7, f8, f9, f10, f11, f12, f13, f14, f15, f16, f17⟩ := hJ
    refine wa hk rfl rfl ?_
    refine ev_act hk rfl rfl (e_move hk rfl _) fun a hk => ?_
    have new : Value.slice (some ⟨bsa, osa, none⟩) 2 cs = Value.slice (some ⟨bsa, osa, none⟩) 2 cs := rfl
    exact ⟨_, _, _, _, _, _, _, _, _, _, _, _, _, _, _, _, _, _, hk.sub _ ⟨rfl, rfl, rfl, rfl, rfl, rfl, rfl, rfl, rfl, rfl, rfl, rfl, rfl, rfl, rfl, rfl, rfl, rfl, rfl, rfl, rfl, rfl, trivial⟩, hB, h_b2, h_b3, h_b7, hRp, hRs, fun h => f0 h, fun h => f1 h, fun h => f2 h, fun h => f3 h, fun _ => new, fun h => f5 h, fun h => f6 h, fun h => f7 h, fun h => f8 h, fun h => f9 h, fun h => f10 h, fun h => f11 h, fun h => f12 h, fun h => f13 h, fun h => f14 h, fun h => f15 h, fun h => f16 h, fun h => f17 h⟩
  · intro _ d a w hr hJ
    obtain ⟨v0, v1, v2, v3, v4, v5, v6, v7, v8, v9, v10, v11, v12, v13, v14, v15, v16, v17, hk, hB, h_b2, h_b3, h_b7, hRp, hRs, f0, f1, f2, f3, f4, f5, f6, f7, f8, f9, f10, f11, f12, f13, f14, f15, f16, f17⟩ := hJ
    obtain rfl := f4 (rdy_pre hr 4 (by kernel_rfl))
    refine wa hk rfl rfl ?_
    refine ev_act hk rfl rfl (e_idxSn 1 hk rfl rfl Tryd.underlying69 sz44 rfl (by decide) _) fun a hk => ?_
    have new : Value.pointer (some ⟨bsa, osa + 1 * 16, none⟩) = Value.pointer (some ⟨bsa, osa + 1 * 16, none⟩) := rfl
    exact ⟨_, _, _, _, _, _, _, _, _, _, _, _, _, _, _, _, _, _, hk.sub _ ⟨rfl, rfl, rfl, rfl, rfl, rfl, rfl, rfl, rfl, rfl, rfl, rfl, rfl, rfl, rfl, rfl, rfl, rfl, rfl, rfl, rfl, rfl, trivial⟩, hB, h_b2, h_b3, h_b7, hRp, hRs, fun h => f0 h, fun h => f1 h, fun h => f2 h, fun h => f3 h, fun h => f4 h, fun _ => new, fun h => f6 h, fun h => f7 h, fun h => f8 h, fun h => f9 h, fun h => f10 h, fun h => f11 h, fun h => f12 h, fun h => f13 h, fun h => f14 h, fun h => f15 h, fun h => f16 h, fun h => f17 h⟩
  · intro _ d a w hr hJ
    obtain ⟨v0, v1, v2, v3, v4, v5, v6, v7, v8, v9, v10, v11, v12, v13, v14, v15, v16, v17, hk, hB, h_b2, h_b3, h_b7, hRp, hRs, f0, f1, f2, f3, f4, f5, f6, f7, f8, f9, f10, f11, f12, f13, f14, f15, f16, f17⟩ := hJ
    obtain rfl := f5 (rdy_pre hr 5 (by kernel_rfl))
    refine wa hk rfl rfl ?_
    refine ev_act hk rfl rfl (r_ldR44 (l := s2) hk rfl (rdg_snd hRs) ls2) fun a hk => ?_
    have new : D s2 = D s2 := rfl
    exact ⟨_, _, _, _, _, _, _, _, _, _, _, _, _, _, _, _, _, _, hk.sub _ ⟨rfl, rfl, rfl, rfl, rfl, rfl, rfl, rfl, rfl, rfl, rfl, rfl, rfl, rfl, rfl, rfl, rfl, rfl, rfl, rfl, rfl, rfl, trivial⟩, hB, h_b2, h_b3, h_b7, hRp, hRs, fun h => f0 h, fun h => f1 h, fun h => f2 h, fun h => f3 h, fun h => f4 h, fun h => f5 h, fun _ => new, fun h => f7 h, fun h => f8 h, fun h => f9 h, fun h => f10 h, fun h => f11 h, fun h => f12 h, fun h => f13 h, fun h => f14 h, fun h => f15 h, fun h => f16 h, fun h => f17 h⟩
  · intro _ d a w hr hJ
    obtain ⟨v0, v1, v2, v3, v4, v5, v6, v7, v8, v9, v10, v11, v12, v13, v14, v15, v16, v17, hk, hB, h_b2, h_b3, h_b7, hRp, hRs, f0, f1, f2, f3, f4, f5, f6, f7, f8, f9, f10, f11, f12, f13, f14, f15, f16, f17⟩ := hJ
    obtain rfl := f6 (rdy_pre hr 6 (by kernel_rfl))
    refine wa hk rfl rfl ?_
    refine a_call hk rfl rfl (c_fn hk rfl ok59) (c59 s2 _ ls2) ?_
    rintro e w' ⟨rfl, hE⟩
    refine ⟨_, rfl, fun a hk => ?_⟩
    skip
    have new : Str s2 = Str s2 := rfl
    exact ⟨_, _, _, _, _, _, _, _, _, _, _, _, _, _, _, _, _, _, hk.sub _ ⟨rfl, rfl, rfl, rfl, rfl, rfl, rfl, rfl, rfl, rfl, rfl, rfl, rfl, rfl, rfl, rfl, rfl, rfl, rfl, rfl, rfl, rfl, trivial⟩, ext_trans hB hE, ext_at hE h_b2, ext_at hE h_b3, ext_at hE h_b7, hRp.ext hE, hRs.ext hE, fun h => f0 h, fun h => f1 h, fun h => f2 h, fun h => f3 h, fun h => f4 h, fun h => f5 h, fun h => f6 h, fun _ => new, fun h => by have f := f8 h; exact by obtain ⟨b, e, h⟩ := f; exact ⟨b, e, ext_at hE h⟩, fun h => f9 h, fun h => f10 h, fun h => f11 h, fun h => f12 h, fun h => f13 h, fun h => f14 h, fun h => by have f := f15 h; exact by obtain ⟨b, e, h⟩ := f; exact ⟨b, e, ext_at hE h⟩, fun h => f16 h, fun h => f17 h⟩
  · intro _ d a w hr hJ
    obtain ⟨v0, v1, v2, v3, v4, v5, v6, v7, v8, v9, v10, v11, v12, v13, v14, v15, v16, v17, hk, hB, h_b2, h_b3, h_b7, hRp, hRs, f0, f1, f2, f3, f4, f5, f6, f7, f8, f9, f10, f11, f12, f13, f14, f15, f16, f17⟩ := hJ
    obtain rfl := f3 (rdy_pre hr 3 (by kernel_rfl))
    obtain rfl := f7 (rdy_pre hr 7 (by kernel_rfl))
    refine wa hk rfl rfl ?_
    refine a_lit (cells := #[Str r2, Str s2]) (zv := .string ByteArray.empty) (sz := 1) (by_ := 16) hk rfl rfl Tryd.underlying27 el9 (by decide) (by decide) (lit2s _ _ rfl rfl _) rfl fun a w' bl hk GL => ?_
    have hE := GL.ext
    have new : ∃ b, (Value.slice (some ⟨bl, 0, none⟩) 2 2) = .slice (some ⟨b, 0, none⟩) 2 2 ∧ w'.heap[b]? = some (.cells #[Str r2, Str s2] 9 (0, 0)) := ⟨_, rfl, GL.at_⟩
    exact ⟨_, _, _, _, _, _, _, _, _, _, _, _, _, _, _, _, _, _, hk.sub _ ⟨rfl, rfl, rfl, rfl, rfl, rfl, rfl, rfl, rfl, rfl, rfl, rfl, rfl, rfl, rfl, rfl, rfl, rfl, rfl, rfl, rfl, rfl, trivial⟩, ext_trans hB hE, ext_at hE h_b2, ext_at hE h_b3, ext_at hE h_b7, hRp.ext hE, hRs.ext hE, fun h => f0 h, fun h => f1 h, fun h => f2 h, fun h => f3 h, fun h => f4 h, fun h => f5 h, fun h => f6 h, fun h => f7 h, fun _ => new, fun h => f9 h, fun h => f10 h, fun h => f11 h, fun h => f12 h, fun h => f13 h, fun h => f14 h, fun h => by have f := f15 h; exact by obtain ⟨b, e, h⟩ := f; exact ⟨b, e, ext_at hE h⟩, fun h => f16 h, fun h => f17 h⟩
  · intro _ d a w hr hJ
    obtain ⟨v0, v1, v2, v3, v4, v5, v6, v7, v8, v9, v10, v11, v12, v13, v14, v15, v16, v17, hk, hB, h_b2, h_b3, h_b7, hRp, hRs, f0, f1, f2, f3, f4, f5, f6, f7, f8, f9, f10, f11, f12, f13, f14, f15, f16, f17⟩ := hJ
    obtain ⟨bl, rfl, hbl⟩ := f8 (rdy_pre hr 8 (by kernel_rfl))
    refine wa hk rfl rfl ?_
    refine a_call hk rfl rfl (c_fn hk rfl ok35) (c35 2 [r2, s2] _ _ _ (rs_lit2 hbl) (hG.ext hB) (by simp) (by simp [l2, ls2])) ?_
    rintro e w' ⟨rfl, hE⟩
    refine ⟨_, rfl, fun a hk => ?_⟩
    have new : D (nodeS r2 s2) = D (nodeS r2 s2) := rfl
    have f8 : d 8 = true → ∃ b, (Value.slice (some ⟨bl, 0, none⟩) 2 2) = .slice (some ⟨b, 0, none⟩) 2 2 ∧ w.heap[b]? = some (.cells #[Str r2, Str s2] 9 (0, 0)) := fun _ => ⟨_, rfl, hbl⟩
    exact ⟨_, _, _, _, _, _, _, _, _, _, _, _, _, _, _, _, _, _, hk.sub _ ⟨rfl, rfl, rfl, rfl, rfl, rfl, rfl, rfl, rfl, rfl, rfl, rfl, rfl, rfl, rfl, rfl, rfl, rfl, rfl, rfl, rfl, rfl, trivial⟩, ext_trans hB hE, ext_at hE h_b2, ext_at hE h_b3, ext_at hE h_b7, hRp.ext hE, hRs.ext hE, fun h => f0 h, fun h => f1 h, fun h => f2 h, fun h => f3 h, fun h => f4 h, fun h => f5 h, fun h => f6 h, fun h => f7 h, fun h => by have f := f8 h; exact by obtain ⟨b, e, h⟩ := f; exact ⟨b, e, ext_at hE h⟩, fun _ => new, fun h => f10 h, fun h => f11 h, fun h => f12 h, fun h => f13 h, fun h => f14 h, fun h => by have f := f15 h; exact by obtain ⟨b, e, h⟩ := f; exact ⟨b, e, ext_at hE h⟩, fun h => f16 h, fun h => f17 h⟩
  · intro _ d a w hr hJ
    obtain ⟨v0, v1, v2, v3, v4, v5, v6, v7, v8, v9, v10, v11, v12, v13, v14, v15, v16, v17, hk, hB, h_b2, h_b3, h_b7, hRp, hRs, f0, f1, f2, f3, f4, f5, f6, f7, f8, f9, f10, f11, f12, f13, f14, f15, f16, f17⟩ := hJ
    obtain rfl := f1 (rdy_pre hr 1 (by kernel_rfl))
    obtain rfl := f9 (rdy_pre hr 9 (by kernel_rfl))
    refine wa hk rfl rfl ?_
    refine ev_act hk rfl rfl (e_eqA (l := rX) (r := nodeS r2 s2) (b := true) hk rfl rfl Tryd.underlying44 Tryd.underlying5 sz5 lX (by simp) eg44 (decide_eq_true hnode) _) fun a hk => ?_
    have new : Value.bool true = Value.bool true := rfl
    exact ⟨_, _, _, _, _, _, _, _, _, _, _, _, _, _, _, _, _, _, hk.sub _ ⟨rfl, rfl, rfl, rfl, rfl, rfl, rfl, rfl, rfl, rfl, rfl, rfl, rfl, rfl, rfl, rfl, rfl, rfl, rfl, rfl, rfl, rfl, trivial⟩, hB, h_b2, h_b3, h_b7, hRp, hRs, fun h => f0 h, fun h => f1 h, fun h => f2 h, fun h => f3 h, fun h => f4 h, fun h => f5 h, fun h => f6 h, fun h => f7 h, fun h => f8 h, fun h => f9 h, fun _ => new, fun h => f11 h, fun h => f12 h, fun h => f13 h, fun h => f14 h, fun h => f15 h, fun h => f16 h, fun h => f17 h⟩
  · intro _ d a w hr hJ
    obtain ⟨v0, v1, v2, v3, v4, v5, v6, v7, v8, v9, v10, v11, v12, v13, v14, v15, v16, v17, hk, hB, h_b2, h_b3, h_b7, hRp, hRs, f0, f1, f2, f3, f4, f5, f6, f7, f8, f9, f10, f11, f12, f13, f14, f15, f16, f17⟩ := hJ
    obtain rfl := f10 (rdy_pre hr 10 (by kernel_rfl))
    refine wa hk rfl rfl ?_
    refine ev_act hk rfl rfl (e_move hk rfl _) fun a hk => ?_
    have new : Value.bool true = Value.bool true := rfl
    exact ⟨_, _, _, _, _, _, _, _, _, _, _, _, _, _, _, _, _, _, hk.sub _ ⟨rfl, rfl, rfl, rfl, rfl, rfl, rfl, rfl, rfl, rfl, rfl, rfl, rfl, rfl, rfl, rfl, rfl, rfl, rfl, rfl, rfl, rfl, trivial⟩, hB, h_b2, h_b3, h_b7, hRp, hRs, fun h => f0 h, fun h => f1 h, fun h => f2 h, fun h => f3 h, fun h => f4 h, fun h => f5 h, fun h => f6 h, fun h => f7 h, fun h => f8 h, fun h => f9 h, fun h => f10 h, fun _ => new, fun h => f12 h, fun h => f13 h, fun h => f14 h, fun h => f15 h, fun h => f16 h, fun h => f17 h⟩
  · intro _ d a w hr hJ
    obtain ⟨v0, v1, v2, v3, v4, v5, v6, v7, v8, v9, v10, v11, v12, v13, v14, v15, v16, v17, hk, hB, h_b2, h_b3, h_b7, hRp, hRs, f0, f1, f2, f3, f4, f5, f6, f7, f8, f9, f10, f11, f12, f13, f14, f15, f16, f17⟩ := hJ
    obtain rfl := f11 (rdy_pre hr 11 (by kernel_rfl))
    refine wa hk rfl rfl ?_
    refine ev_act hk rfl rfl (e_move hk rfl _) fun a hk => ?_
    have new : Value.slice (some ⟨b7, 0, none⟩) 3 3 = Value.slice (some ⟨b7, 0, none⟩) 3 3 := rfl
    exact ⟨_, _, _, _, _, _, _, _, _, _, _, _, _, _, _, _, _, _, hk.sub _ ⟨rfl, rfl, rfl, rfl, rfl, rfl, rfl, rfl, rfl, rfl, rfl, rfl, rfl, rfl, rfl, rfl, rfl, rfl, rfl, rfl, rfl, rfl, trivial⟩, hB, h_b2, h_b3, h_b7, hRp, hRs, fun h => f0 h, fun h => f1 h, fun h => f2 h, fun h => f3 h, fun h => f4 h, fun h => f5 h, fun h => f6 h, fun h => f7 h, fun h => f8 h, fun h => f9 h, fun h => f10 h, fun h => f11 h, fun _ => new, fun h => f13 h, fun h => f14 h, fun h => f15 h, fun h => f16 h, fun h => f17 h⟩
  · intro _ d a w hr hJ
    obtain ⟨v0, v1, v2, v3, v4, v5, v6, v7, v8, v9, v10, v11, v12, v13, v14, v15, v16, v17, hk, hB, h_b2, h_b3, h_b7, hRp, hRs, f0, f1, f2, f3, f4, f5, f6, f7, f8, f9, f10, f11, f12, f13, f14, f15, f16, f17⟩ := hJ
    obtain rfl := f11 (rdy_pre hr 11 (by kernel_rfl))
    obtain rfl := f12 (rdy_pre hr 12 (by kernel_rfl))
    refine wa hk rfl rfl ?_
    refine ev_act hk rfl rfl (e_slSfrom hk rfl rfl Tryd.underlying27 sz9 (by decide) (by decide) _) fun a hk => ?_
    have new : Value.slice (if 3 = 2 then some ⟨b7, 0, none⟩ else (some ⟨b7, 0, none⟩ : Option Addr).map (·.add (2 * 1))) (3 - 2) (3 - 2) = Value.slice (if 3 = 2 then some ⟨b7, 0, none⟩ else (some ⟨b7, 0, none⟩ : Option Addr).map (·.add (2 * 1))) (3 - 2) (3 - 2) := rfl
    exact ⟨_, _, _, _, _, _, _, _, _, _, _, _, _, _, _, _, _, _, hk.sub _ ⟨rfl, rfl, rfl, rfl, rfl, rfl, rfl, rfl, rfl, rfl, rfl, rfl, rfl, rfl, rfl, rfl, rfl, rfl, rfl, rfl, rfl, rfl, trivial⟩, hB, h_b2, h_b3, h_b7, hRp, hRs, fun h => f0 h, fun h => f1 h, fun h => f2 h, fun h => f3 h, fun h => f4 h, fun h => f5 h, fun h => f6 h, fun h => f7 h, fun h => f8 h, fun h => f9 h, fun h => f10 h, fun h => f11 h, fun h => f12 h, fun _ => new, fun h => f14 h, fun h => f15 h, fun h => f16 h, fun h => f17 h⟩
  · intro _ d a w hr hJ
    obtain ⟨v0, v1, v2, v3, v4, v5, v6, v7, v8, v9, v10, v11, v12, v13, v14, v15, v16, v17, hk, hB, h_b2, h_b3, h_b7, hRp, hRs, f0, f1, f2, f3, f4, f5, f6, f7, f8, f9, f10, f11, f12, f13, f14, f15, f16, f17⟩ := hJ
    obtain rfl := f11 (rdy_pre hr 11 (by kernel_rfl))
    obtain rfl := f13 (rdy_pre hr 13 (by kernel_rfl))
    refine wa hk rfl rfl ?_
    refine a_call hk rfl rfl (c_fn hk rfl ok46) (c46 (X3.drop 2) ⟨by decide, by simp [X3]⟩ _ (3 - 2) _ (sub_from (rs3 h_b7) (k := 2) (by decide)) (hG.ext hB)) ?_
    rintro e w' ⟨rfl, hE⟩
    refine ⟨_, rfl, fun a hk => ?_⟩
    rw [hs2] at hk
    have new : D s2 = D s2 := rfl
    exact ⟨_, _, _, _, _, _, _, _, _, _, _, _, _, _, _, _, _, _, hk.sub _ ⟨rfl, rfl, rfl, rfl, rfl, rfl, rfl, rfl, rfl, rfl, rfl, rfl, rfl, rfl, rfl, rfl, rfl, rfl, rfl, rfl, rfl, rfl, trivial⟩, ext_trans hB hE, ext_at hE h_b2, ext_at hE h_b3, ext_at hE h_b7, hRp.ext hE, hRs.ext hE, fun h => f0 h, fun h => f1 h, fun h => f2 h, fun h => f3 h, fun h => f4 h, fun h => f5 h, fun h => f6 h, fun h => f7 h, fun h => by have f := f8 h; exact by obtain ⟨b, e, h⟩ := f; exact ⟨b, e, ext_at hE h⟩, fun h => f9 h, fun h => f10 h, fun h => f11 h, fun h => f12 h, fun h => f13 h, fun _ => new, fun h => by have f := f15 h; exact by obtain ⟨b, e, h⟩ := f; exact ⟨b, e, ext_at hE h⟩, fun h => f16 h, fun h => f17 h⟩
  · intro _ d a w hr hJ
    obtain ⟨v0, v1, v2, v3, v4, v5, v6, v7, v8, v9, v10, v11, v12, v13, v14, v15, v16, v17, hk, hB, h_b2, h_b3, h_b7, hRp, hRs, f0, f1, f2, f3, f4, f5, f6, f7, f8, f9, f10, f11, f12, f13, f14, f15, f16, f17⟩ := hJ
    obtain rfl := f11 (rdy_pre hr 11 (by kernel_rfl))
    refine wa hk rfl rfl ?_
    refine a_lit (cells := #[Str [122]]) (zv := .string ByteArray.empty) (sz := 1) (by_ := 16) hk rfl rfl Tryd.underlying27 el9 (by decide) (by decide) (lit1s _ rfl _) rfl fun a w' bl hk GL => ?_
    have hE := GL.ext
    have new : ∃ b, (Value.slice (some ⟨bl, 0, none⟩) 1 1) = .slice (some ⟨b, 0, none⟩) 1 1 ∧ w'.heap[b]? = some (.cells #[Str [122]] 9 (0, 0)) := ⟨_, rfl, GL.at_⟩
    exact ⟨_, _, _, _, _, _, _, _, _, _, _, _, _, _, _, _, _, _, hk.sub _ ⟨rfl, rfl, rfl, rfl, rfl, rfl, rfl, rfl, rfl, rfl, rfl, rfl, rfl, rfl, rfl, rfl, rfl, rfl, rfl, rfl, rfl, rfl, trivial⟩, ext_trans hB hE, ext_at hE h_b2, ext_at hE h_b3, ext_at hE h_b7, hRp.ext hE, hRs.ext hE, fun h => f0 h, fun h => f1 h, fun h => f2 h, fun h => f3 h, fun h => f4 h, fun h => f5 h, fun h => f6 h, fun h => f7 h, fun h => by have f := f8 h; exact by obtain ⟨b, e, h⟩ := f; exact ⟨b, e, ext_at hE h⟩, fun h => f9 h, fun h => f10 h, fun h => f11 h, fun h => f12 h, fun h => f13 h, fun h => f14 h, fun _ => new, fun h => f16 h, fun h => f17 h⟩
  · intro _ d a w hr hJ
    obtain ⟨v0, v1, v2, v3, v4, v5, v6, v7, v8, v9, v10, v11, v12, v13, v14, v15, v16, v17, hk, hB, h_b2, h_b3, h_b7, hRp, hRs, f0, f1, f2, f3, f4, f5, f6, f7, f8, f9, f10, f11, f12, f13, f14, f15, f16, f17⟩ := hJ
    obtain rfl := f11 (rdy_pre hr 11 (by kernel_rfl))
    obtain ⟨bl, rfl, hbl⟩ := f15 (rdy_pre hr 15 (by kernel_rfl))
    refine wa hk rfl rfl ?_
    refine a_call hk rfl rfl (c_fn hk rfl ok35) (c35 1 [[122]] _ _ _ (rs_lit1 hbl) (hG.ext hB) (by simp) (by simp)) ?_
    rintro e w' ⟨rfl, hE⟩
    refine ⟨_, rfl, fun a hk => ?_⟩
    rw [show (sha (ofIn 1 [[122]])).take 16 = s2 from hleaf.symm] at hk
    have new : D s2 = D s2 := rfl
    have f15 : d 15 = true → ∃ b, (Value.slice (some ⟨bl, 0, none⟩) 1 1) = .slice (some ⟨b, 0, none⟩) 1 1 ∧ w.heap[b]? = some (.cells #[Str [122]] 9 (0, 0)) := fun _ => ⟨_, rfl, hbl⟩
    exact ⟨_, _, _, _, _, _, _, _, _, _, _, _, _, _, _, _, _, _, hk.sub _ ⟨rfl, rfl, rfl, rfl, rfl, rfl, rfl, rfl, rfl, rfl, rfl, rfl, rfl, rfl, rfl, rfl, rfl, rfl, rfl, rfl, rfl, rfl, trivial⟩, ext_trans hB hE, ext_at hE h_b2, ext_at hE h_b3, ext_at hE h_b7, hRp.ext hE, hRs.ext hE, fun h => f0 h, fun h => f1 h, fun h => f2 h, fun h => f3 h, fun h => f4 h, fun h => f5 h, fun h => f6 h, fun h => f7 h, fun h => by have f := f8 h; exact by obtain ⟨b, e, h⟩ := f; exact ⟨b, e, ext_at hE h⟩, fun h => f9 h, fun h => f10 h, fun h => f11 h, fun h => f12 h, fun h => f13 h, fun h => f14 h, fun h => by have f := f15 h; exact by obtain ⟨b, e, h⟩ := f; exact ⟨b, e, ext_at hE h⟩, fun _ => new, fun h => f17 h⟩
  · intro _ d a w hr hJ
    obtain ⟨v0, v1, v2, v3, v4, v5, v6, v7, v8, v9, v10, v11, v12, v13, v14, v15, v16, v17, hk, hB, h_b2, h_b3, h_b7, hRp, hRs, f0, f1, f2, f3, f4, f5, f6, f7, f8, f9, f10, f11, f12, f13, f14, f15, f16, f17⟩ := hJ
    obtain rfl := f11 (rdy_pre hr 11 (by kernel_rfl))
    obtain rfl := f14 (rdy_pre hr 14 (by kernel_rfl))
    obtain rfl := f16 (rdy_pre hr 16 (by kernel_rfl))
    refine wa hk rfl rfl ?_
    refine ev_act hk rfl rfl (e_eqA (l := s2) (r := s2) (b := true) hk rfl rfl Tryd.underlying44 Tryd.underlying5 sz5 ls2 ls2 eg44 (decide_eq_true rfl) _) fun a hk => ?_
    have new : Value.bool true = Value.bool true := rfl
    exact ⟨_, _, _, _, _, _, _, _, _, _, _, _, _, _, _, _, _, _, hk.sub _ ⟨rfl, rfl, rfl, rfl, rfl, rfl, rfl, rfl, rfl, rfl, rfl, rfl, rfl, rfl, rfl, rfl, rfl, rfl, rfl, rfl, rfl, rfl, trivial⟩, hB, h_b2, h_b3, h_b7, hRp, hRs, fun h => f0 h, fun h => f1 h, fun h => f2 h, fun h => f3 h, fun h => f4 h, fun h => f5 h, fun h => f6 h, fun h => f7 h, fun h => f8 h, fun h => f9 h, fun h => f10 h, fun h => f11 h, fun h => f12 h, fun h => f13 h, fun h => f14 h, fun h => f15 h, fun h => f16 h, fun _ => new⟩
  · intro h; cases h
  · intro h; cases h
  · intro h; cases h
  · intro h; cases h
  · intro h; cases h
  · intro h; cases h
  · intro h; cases h
  · intro h; cases h
  · intro h; cases h
  · intro h; cases h
  · intro h; cases h
  · intro h; cases h
  · intro h; cases h
  · intro h; cases h
  · intro h; cases h
  · intro h; cases h
  · intro h; cases h
  · intro h; cases h
  · intro h; cases h
  · intro h; cases h
  · intro h; cases h
  · intro h; cases h
  · intro h; cases h
  · intro h; cases h
  · intro h; cases h

end Go.Proofs.YtidfbboalbchiaaDoor
