/- The walks of the specification's padKey and Mac, and of the law of the codes. -/
import Derived.Test.YtidfbboalbchiaaDoorA16
namespace Go.Proofs.YtidfbboalbchiaaDoor
open Go Go.RowKit

theorem fill_get (k : List UInt8) (i : Nat) (hi : i < (fill64 k).length) : (fill64 k)[i] = k.getD i 0 := by
  unfold fill64 at hi ⊢
  rw [List.getElem_append]
  split
  · rename_i h; simp [h]
  · rename_i h; simp [List.getElem?_eq_none (Nat.le_of_not_lt h)]
theorem take_map (p : List UInt8) (x : UInt8) (i : Nat) (h : i < p.length) : (p.take (i + 1)).map (· ^^^ x) = (p.take i).map (· ^^^ x) ++ [p[i] ^^^ x] := by
  rw [List.take_add_one, List.getElem?_eq_getElem h]
  simp only [Option.toList_some, List.map_append, List.map_cons, List.map_nil]

set_option maxRecDepth 4000 in
set_option maxHeartbeats 1000000 in
theorem c72 (key : List UInt8) (x : UInt8) (w0 : World) (hGR : GR w0) (hl : key.length ≤ 1000000000) :
    Calls Tryd.prog 72 #[Str key, B x] w0 fun e w' => ∃ ad c, e = .returned (.slice ad 64 c) ∧ w'.ownsRow w0.heap.size 5 1 (.slice ad 64 c) 64 ((key64 key x).map B) ∧ Ext w0 w' := by
  refine start 35 Tryd.func72 rfl rfl rfl fun a hk => ?_
  refine wp_seq_k fun K1 hK1 => ?_
  refine wp_region_lit ?_
  refine ls hk rfl rfl rfl (e_assign hk rfl _) fun a hk => ?_
  have hB : Ext w0 w0 := Below.refl _ _
  refine lnil (hK1 _ _ ?_)
  refine wp_seq_k fun K2 hK2 => ?_
  refine wp_region_lit ?_
  refine ls hk rfl rfl rfl (e_move hk rfl _) fun a hk => ?_
  refine ls hk rfl rfl rfl (e_assign hk rfl _) fun a hk => ?_
  refine lnil (hK2 _ _ ?_)
  refine wp_seq_k fun K3 hK3 => ?_
  have hJ3 : ∀ (a : Act) (w : World), Kn a 35 [(1, B x), (5, Str (if key.length > 64 then sha key else key))] ∧ Ext w0 w → K3 a w := by
    intro a w hJ
    refine hK3 _ _ ?_
    refine wp_seq_k fun K4 hK4 => ?_
    generalize hke : (if key.length > 64 then sha key else key) = k₁ at hJ
    have hk1 : k₁.length ≤ 64 := by rw [← hke]; exact k1_le key
    clear hB
    obtain ⟨hk, hB⟩ := hJ
    have hp64 : (fill64 k₁).length = 64 := length_fill64 k₁ hk1
    refine wp_region_lit ?_
    refine ls hk rfl rfl rfl (e_assign hk rfl _) fun a hk => ?_
    refine lnil (hK4 _ _ ?_)
    refine wp_seq_k fun K5 hK5 => ?_
    refine wp_seq_k fun K6 hK6 => ?_
    refine wp_region_lit ?_
    refine ls hk rfl rfl rfl (e_assign hk rfl _) fun a hk => ?_
    refine lnil (hK6 _ _ ?_)
    refine wp_block ?_
    refine loopN (fun n a w => ∃ (i : Nat) (ad : Option Addr) (c : Nat), n = 64 - i ∧ i ≤ 64 ∧ Kn a 35 [(1, B x), (5, Str k₁), (6, .slice ad i c), (7, I i)] ∧ Ext w0 w ∧ w0.heap.size ≤ w.heap.size ∧ w.ownsRow w0.heap.size 5 1 (.slice ad i c) i (((fill64 k₁).take i).map (· ^^^ x) |>.map B)) (64) ?_ fun n a w hI => ?_
    · exact ⟨0, none, 0, rfl, by omega, hk.sub _ ⟨rfl, rfl, rfl, rfl, trivial⟩, hB, hB.size, own_nil⟩
    clear hB
    obtain ⟨i, ad, c, rfl, hi, hk, hB, hCC, hown⟩ := hI
    refine wp_seq_k fun K7 hK7 => ?_
    refine wp_seq_k fun K8 hK8 => ?_
    refine wp_region_lit ?_
    refine ls hk rfl rfl rfl (e_move hk rfl _) fun a hk => ?_
    refine ls hk rfl rfl rfl (e_lss hk rfl rfl rfl _) fun a hk => ?_
    refine lnil (hK8 _ _ ?_)
    refine cdB hk rfl (fun hb => ?_) (fun hb => ?_)
    · have hil : i < 64 := by have := of_decide_eq_true hb; omega
      have hif : i < (fill64 k₁).length := by omega
      refine wp_skip (hK7 _ _ ?_)
      refine wp_seq_k fun K9 hK9 => ?_
      refine wp_block ?_
      refine wp_seq_k fun K10 hK10 => ?_
      refine wp_region_lit ?_
      refine ls hk rfl rfl rfl (e_assign hk rfl _) fun a hk => ?_
      refine lnil (hK10 _ _ ?_)
      refine wp_seq_k fun K11 hK11 => ?_
      have hJ11 : ∀ (a : Act) (w : World), Kn a 35 [(1, B x), (5, Str k₁), (6, .slice ad i c), (7, I i), (8, B (fill64 k₁)[i])] ∧ Ext w0 w ∧ w0.heap.size ≤ w.heap.size ∧ w.ownsRow w0.heap.size 5 1 (.slice ad i c) i (((fill64 k₁).take i).map (· ^^^ x) |>.map B) → K11 a w := by
        intro a w ⟨hk, hB, hCC, hown⟩
        refine hK11 _ _ ?_
        refine wp_region_lit ?_
        refine ls hk rfl rfl rfl (e_move hk rfl _) fun a hk => ?_
        refine ls hk rfl rfl rfl (e_move hk rfl _) fun a hk => ?_
        refine ls hk rfl rfl rfl (e_move hk rfl _) fun a hk => ?_
        refine ls hk rfl rfl rfl (e_xor hk rfl rfl (b_xor _ _) _) fun a hk => ?_
        refine la hk rfl (a_lit (cells := #[B ((fill64 k₁)[i] ^^^ x)]) (zv := .int .u8 0) (sz := 1) (by_ := 1) hk rfl rfl Tryd.underlying22 el5 (by decide) (by decide) (lit1 _ _ rfl) rfl fun a w bl hk GL => ?_)
        have hB := ext_trans hB GL.ext
        have hown := own_ext hown GL.ext
        have hRd := lit_byte _ GL
        have hCC := Nat.le_trans hCC GL.ext.size
        clear GL
        refine la hk rfl (a_app hk rfl rfl hown rfl hRd (bytes_one _) Tryd.underlying22 el5 rfl (by decide) (by omega) (by omega) hCC fun a w v hk hown' hKp => ?_)
        have hB := kept_below hKp hB hown (Nat.le_refl _) hCC
        have hCC := Nat.le_trans hCC hKp.size
        clear hown hRd hKp
        obtain ⟨ad, c, rfl, _, _⟩ := Rd.of_own hown'
        have hown : w.ownsRow w0.heap.size 5 1 (.slice ad (i + 1) c) (i + 1) ((((fill64 k₁).take (i + 1)).map (· ^^^ x)).map B) := by
          rw [take_map _ _ _ hif, List.map_append]; exact hown'
        clear hown'
        refine ls hk rfl rfl rfl (e_assign hk rfl _) fun a hk => ?_
        refine lnil (hK9 _ _ ?_)
        refine wp_region_lit ?_
        refine ls hk rfl rfl rfl (e_move hk rfl _) fun a hk => ?_
        refine ls hk rfl rfl rfl (e_add hk rfl rfl (i64 (by omega) (by omega)) _) fun a hk => ?_
        refine ls hk rfl rfl rfl (e_assign hk rfl _) fun a hk => ?_
        refine lnil (show ∃ m : Nat, m < _ ∧ _ from ⟨64 - (i + 1), by omega, i + 1, _, _, rfl, by omega, hk.sub _ ⟨rfl, rfl, rfl, rfl, trivial⟩, hB, hCC, hown⟩)
      refine wp_seq_k fun K12 hK12 => ?_
      refine wp_region_lit ?_
      refine ls hk rfl rfl rfl (e_move hk rfl _) fun a hk => ?_
      refine ls hk rfl rfl rfl (e_move hk rfl _) fun a hk => ?_
      refine ls hk rfl rfl rfl (e_lenStr hk rfl Tryd.underlying9 _) fun a hk => ?_
      refine ls hk rfl rfl rfl (e_lss hk rfl rfl rfl _) fun a hk => ?_
      refine lnil (hK12 _ _ ?_)
      refine cdB hk rfl (fun hb => ?_) (fun hb => ?_)
      · have hlt : i < k₁.length := by have := of_decide_eq_true hb; omega
        refine wp_region_lit ?_
        refine ls hk rfl rfl rfl (e_move hk rfl _) fun a hk => ?_
        refine ls hk rfl rfl rfl (e_move hk rfl _) fun a hk => ?_
        refine ls hk rfl rfl rfl (e_idxStr (c := (fill64 k₁)[i]) hk rfl rfl Tryd.underlying9 (by omega) (by rw [fill_get k₁ i hif]; simp [hlt]) _) fun a hk => ?_
        refine ls hk rfl rfl rfl (e_assign hk rfl _) fun a hk => ?_
        refine lnil (hJ11 _ _ ⟨by first | exact hk.sub _ ⟨rfl, rfl, rfl, rfl, rfl, trivial⟩ | (rw [hv]; exact hk.sub _ ⟨rfl, rfl, rfl, rfl, rfl, trivial⟩), hB, hCC, hown⟩)
      · have hge : ¬ i < k₁.length := by have := of_decide_eq_false hb; omega
        have hv : (fill64 k₁)[i] = 0 := by rw [fill_get k₁ i hif]; simp [List.getElem?_eq_none (Nat.le_of_not_lt hge)]
        refine wp_skip (hJ11 _ _ ⟨by first | exact hk.sub _ ⟨rfl, rfl, rfl, rfl, rfl, trivial⟩ | (rw [hv]; exact hk.sub _ ⟨rfl, rfl, rfl, rfl, rfl, trivial⟩), hB, hCC, hown⟩)
    · have hil : i = 64 := by have := of_decide_eq_false hb; omega
      subst hil
      rw [List.take_of_length_le (by omega)] at hown
      refine wp_exit (hK5 _ _ ?_)
      refine wp_seq_k fun K13 hK13 => ?_
      refine wp_region_lit ?_
      refine ls hk rfl rfl rfl (e_move hk rfl _) fun a hk => ?_
      refine ls hk rfl rfl rfl (e_assign hk rfl _) fun a hk => ?_
      refine lnil (hK13 _ _ ?_)
      refine wp_ret ?_
      exact ret1 hk rfl rfl ⟨ad, c, rfl, by unfold key64; rw [hke]; exact hown, hB⟩
  refine wp_seq_k fun K14 hK14 => ?_
  refine wp_region_lit ?_
  refine ls hk rfl rfl rfl (e_move hk rfl _) fun a hk => ?_
  refine ls hk rfl rfl rfl (e_lenStr hk rfl Tryd.underlying9 _) fun a hk => ?_
  refine ls hk rfl rfl rfl (e_gtr hk rfl rfl rfl _) fun a hk => ?_
  refine lnil (hK14 _ _ ?_)
  refine cdB hk rfl (fun hb => ?_) (fun hb => ?_)
  · have hlong : key.length > 64 := by have := of_decide_eq_true hb; omega
    refine wp_region_lit ?_
    refine ls hk rfl rfl rfl (e_move hk rfl _) fun a hk => ?_
    refine la hk rfl (a_bytes hk rfl rfl Tryd.underlying9 Tryd.underlying22 Tryd.underlying5 fun a w bb cc hk hgb hE hRb => ?_)
    have hB := ext_trans hB hE
    refine la hk rfl (a_call hk rfl rfl (c_fn hk rfl ok24) (c24 key _ _ _ hRb (hGR.ext hB) (by omega)) ?_)
    rintro e w ⟨rfl, hE⟩
    refine ⟨_, rfl, fun a hk => ?_⟩
    have hB := ext_trans hB hE
    refine la hk rfl (a_call hk rfl rfl (c_fn hk rfl ok32) (c32 (sha key) _ (length_sha _)) ?_)
    rintro e w ⟨rfl, hE⟩
    refine ⟨_, rfl, fun a hk => ?_⟩
    have hB := ext_trans hB hE
    refine ls hk rfl rfl rfl (e_assign hk rfl _) fun a hk => ?_
    refine lnil (hJ3 _ _ ⟨by first | (rw [if_pos hlong]; exact hk.sub _ ⟨rfl, rfl, trivial⟩) | (rw [if_neg hshort]; exact hk.sub _ ⟨rfl, rfl, trivial⟩), hB⟩)
  · have hshort : ¬ key.length > 64 := by have := of_decide_eq_false hb; omega
    refine wp_skip (hJ3 _ _ ⟨by first | (rw [if_pos hlong]; exact hk.sub _ ⟨rfl, rfl, trivial⟩) | (rw [if_neg hshort]; exact hk.sub _ ⟨rfl, rfl, trivial⟩), hB⟩)

theorem length_key64 (key : List UInt8) (x : UInt8) : (key64 key x).length = 64 := by
  show (pad64 _ x).length = 64
  exact length_pad64 _ _ (k1_le key)

set_option maxRecDepth 4000 in
set_option maxHeartbeats 1000000 in
theorem c31 (key text : List UInt8) (w0 : World) (hGR : GR w0) (hl : key.length ≤ 100000000) (ht : text.length ≤ 100000000) :
    Calls Tryd.prog 31 #[Str key, Str text] w0 fun e w' => e = .returned (Str (mac key text)) ∧ Ext w0 w' := by
  refine start 22 Tryd.func31 rfl rfl rfl fun a hk => ?_
  refine wp_seq_k fun K1 hK1 => ?_
  refine wp_region_lit ?_
  refine ls hk rfl rfl rfl (e_assign hk rfl _) fun a hk => ?_
  have hB : Ext w0 w0 := Below.refl _ _
  refine lnil (hK1 _ _ ?_)
  refine wp_seq_k fun K2 hK2 => ?_
  refine wp_region_lit ?_
  refine ls hk rfl rfl rfl (e_move hk rfl _) fun a hk => ?_
  refine la hk rfl (a_call hk rfl rfl (c_fn hk rfl ok72) (c72 key 54 _ (hGR.ext hB) (by omega)) ?_)
  rintro e w ⟨ad, c, rfl, hown, hE⟩
  refine ⟨_, rfl, fun a hk => ?_⟩
  refine ls hk rfl rfl rfl (e_assign hk rfl _) fun a hk => ?_
  refine lnil (hK2 _ _ ?_)
  refine wp_seq_k fun K3 hK3 => ?_
  refine wp_region_lit ?_
  refine ls hk rfl rfl rfl (e_move hk rfl _) fun a hk => ?_
  refine ls hk rfl rfl rfl (e_move hk rfl _) fun a hk => ?_
  refine la hk rfl (a_appStr hk rfl rfl hown rfl Tryd.underlying22 Tryd.underlying9 el5 (by omega) hE.size fun a w v hk hown' hKp => ?_)
  have hB := kept_below hKp hE hown (Nat.le_refl _) hE.size
  obtain ⟨ad5, c5, rfl, _, hR5⟩ := Rd.of_own hown'
  rw [← List.map_append] at hR5
  have hm : 64 + text.length = (key64 key 54 ++ text).length := by rw [List.length_append, length_key64]
  rw [hm] at hk hR5
  clear hown hown' hKp hE
  refine ls hk rfl rfl rfl (e_assign hk rfl _) fun a hk => ?_
  refine lnil (hK3 _ _ ?_)
  refine wp_seq_k fun K4 hK4 => ?_
  refine wp_region_lit ?_
  refine ls hk rfl rfl rfl (e_move hk rfl _) fun a hk => ?_
  refine la hk rfl (a_call hk rfl rfl (c_fn hk rfl ok72) (c72 key 92 _ (hGR.ext hB) (by omega)) ?_)
  rintro e w ⟨ad, c, rfl, hown, hE⟩
  refine ⟨_, rfl, fun a hk => ?_⟩
  have hR5 := hR5.ext hE
  have hown := own_mono hown hB.size
  have hB := ext_trans hB hE
  refine ls hk rfl rfl rfl (e_assign hk rfl _) fun a hk => ?_
  refine lnil (hK4 _ _ ?_)
  refine wp_seq_k fun K5 hK5 => ?_
  refine wp_region_lit ?_
  refine ls hk rfl rfl rfl (e_move hk rfl _) fun a hk => ?_
  refine ls hk rfl rfl rfl (e_move hk rfl _) fun a hk => ?_
  refine la hk rfl (a_call hk rfl rfl (c_fn hk rfl ok24) (c24 (key64 key 54 ++ text) _ _ _ hR5 (hGR.ext hB) (by rw [← hm]; omega)) ?_)
  rintro e w ⟨rfl, hE⟩
  refine ⟨_, rfl, fun a hk => ?_⟩
  have hB := ext_trans hB hE
  have hown := own_ext hown hE
  refine la hk rfl (a_call hk rfl rfl (c_fn hk rfl ok32) (c32 (sha (key64 key 54 ++ text)) _ (length_sha _)) ?_)
  rintro e w ⟨rfl, hE⟩
  refine ⟨_, rfl, fun a hk => ?_⟩
  have hB := ext_trans hB hE
  have hown := own_ext hown hE
  refine la hk rfl (a_appStr hk rfl rfl hown rfl Tryd.underlying22 Tryd.underlying9 el5 (by rw [length_sha]; decide) hB.size fun a w v hk hown' hKp => ?_)
  have hB := kept_below hKp hB hown (Nat.le_refl _) hB.size
  obtain ⟨ad6, c6, rfl, _, hR6⟩ := Rd.of_own hown'
  rw [← List.map_append] at hR6
  have hm2 : 64 + (sha (key64 key 54 ++ text)).length = (key64 key 92 ++ sha (key64 key 54 ++ text)).length := by rw [List.length_append, length_key64]
  rw [hm2] at hk hR6
  clear hown hown' hKp hE
  refine ls hk rfl rfl rfl (e_assign hk rfl _) fun a hk => ?_
  refine lnil (hK5 _ _ ?_)
  refine wp_seq_k fun K6 hK6 => ?_
  refine wp_region_lit ?_
  refine ls hk rfl rfl rfl (e_move hk rfl _) fun a hk => ?_
  refine la hk rfl (a_call hk rfl rfl (c_fn hk rfl ok24) (c24 (key64 key 92 ++ sha (key64 key 54 ++ text)) _ _ _ hR6 (hGR.ext hB) (by rw [← hm2, length_sha]; decide)) ?_)
  rintro e w ⟨rfl, hE⟩
  refine ⟨_, rfl, fun a hk => ?_⟩
  have hB := ext_trans hB hE
  refine la hk rfl (a_call hk rfl rfl (c_fn hk rfl ok32) (c32 (sha (key64 key 92 ++ sha (key64 key 54 ++ text))) _ (length_sha _)) ?_)
  rintro e w ⟨rfl, hE⟩
  refine ⟨_, rfl, fun a hk => ?_⟩
  have hB := ext_trans hB hE
  refine ls hk rfl rfl rfl (e_assign hk rfl _) fun a hk => ?_
  refine lnil (hK6 _ _ ?_)
  refine wp_ret ?_
  exact ret1 hk rfl rfl ⟨rfl, hB⟩

set_option maxRecDepth 4000 in
set_option maxHeartbeats 1000000 in
theorem c5 (s t : List UInt8) (w0 : World) (hG : GH w0) (hGR : GR w0) : Calls Tryd.prog 5 #[Str s, Str t] w0 fun e w' => e = .returned (.bool true) ∧ Ext w0 w' := by
  rcases (by omega : s.length > 400 ∨ (s.length ≤ 400 ∧ t.length > 400) ∨ (s.length ≤ 400 ∧ t.length ≤ 400)) with hc | hc | hc
  · refine start 26 Tryd.func5 rfl rfl rfl fun a hk => ?_
    refine wp_seq_k fun K1 hK1 => ?_
    refine wp_region_lit ?_
    refine ls hk rfl rfl rfl (e_assign hk rfl _) fun a hk => ?_
    refine lnil (hK1 _ _ ?_)
    refine wp_seq_k fun K2 hK2 => ?_
    have hB : Ext w0 w0 := Below.refl _ _
    refine wp_region_lit ?_
    refine la hk rfl (a_call hk rfl rfl (c_fn (vs := []) hk rfl ok22) (c22 _ (hG.ext hB)) ?_)
    rintro e w ⟨rfl, hE⟩
    refine ⟨_, rfl, fun a hk => ?_⟩
    have hB := ext_trans hB hE
    refine ls hk rfl rfl rfl (e_assign hk rfl _) fun a hk => ?_
    refine lnil (hK2 _ _ ?_)
    refine wp_seq_k fun K3 hK3 => ?_
    refine wp_seq_k fun K4 hK4 => ?_
    refine wp_region_lit ?_
    refine ls hk rfl rfl rfl (e_move hk rfl _) fun a hk => ?_
    refine ls hk rfl rfl rfl (e_lenStr hk rfl Tryd.underlying9 _) fun a hk => ?_
    refine ls hk rfl rfl rfl (e_gtr (b := true) hk rfl rfl (decide_eq_true (by omega)) _) fun a hk => ?_
    refine ls hk rfl rfl rfl (e_move hk rfl _) fun a hk => ?_
    refine lno hk rfl rfl rfl fun a hk => ?_
    refine lno hk rfl rfl rfl fun a hk => ?_
    refine lno hk rfl rfl rfl fun a hk => ?_
    refine ls hk rfl rfl rfl (e_pickT hk rfl rfl _) fun a hk => ?_
    refine lnil (hK4 _ _ ?_)
    refine cdT hk rfl ?_
    refine wp_seq_k fun K5 hK5 => ?_
    refine wp_region_lit ?_
    refine ls hk rfl rfl rfl (e_move hk rfl _) fun a hk => ?_
    refine ls hk rfl rfl rfl (e_assign hk rfl _) fun a hk => ?_
    refine lnil (hK5 _ _ ?_)
    refine wp_ret ?_
    simp only [then_ret]
    exact ret1 hk rfl rfl ⟨rfl, hB⟩
  · refine start 26 Tryd.func5 rfl rfl rfl fun a hk => ?_
    refine wp_seq_k fun K1 hK1 => ?_
    refine wp_region_lit ?_
    refine ls hk rfl rfl rfl (e_assign hk rfl _) fun a hk => ?_
    refine lnil (hK1 _ _ ?_)
    refine wp_seq_k fun K2 hK2 => ?_
    have hB : Ext w0 w0 := Below.refl _ _
    refine wp_region_lit ?_
    refine la hk rfl (a_call hk rfl rfl (c_fn (vs := []) hk rfl ok22) (c22 _ (hG.ext hB)) ?_)
    rintro e w ⟨rfl, hE⟩
    refine ⟨_, rfl, fun a hk => ?_⟩
    have hB := ext_trans hB hE
    refine ls hk rfl rfl rfl (e_assign hk rfl _) fun a hk => ?_
    refine lnil (hK2 _ _ ?_)
    refine wp_seq_k fun K3 hK3 => ?_
    refine wp_seq_k fun K4 hK4 => ?_
    refine wp_region_lit ?_
    refine ls hk rfl rfl rfl (e_move hk rfl _) fun a hk => ?_
    refine ls hk rfl rfl rfl (e_lenStr hk rfl Tryd.underlying9 _) fun a hk => ?_
    refine ls hk rfl rfl rfl (e_gtr (b := false) hk rfl rfl (decide_eq_false (by omega)) _) fun a hk => ?_
    refine ls hk rfl rfl rfl (e_move hk rfl _) fun a hk => ?_
    refine ls hk rfl rfl rfl (e_move hk rfl _) fun a hk => ?_
    refine ls hk rfl rfl rfl (e_lenStr hk rfl Tryd.underlying9 _) fun a hk => ?_
    refine ls hk rfl rfl rfl (e_gtr (b := true) hk rfl rfl (decide_eq_true (by omega)) _) fun a hk => ?_
    refine ls hk rfl rfl rfl (e_pickF hk rfl rfl _) fun a hk => ?_
    refine lnil (hK4 _ _ ?_)
    refine cdT hk rfl ?_
    refine wp_seq_k fun K5 hK5 => ?_
    refine wp_region_lit ?_
    refine ls hk rfl rfl rfl (e_move hk rfl _) fun a hk => ?_
    refine ls hk rfl rfl rfl (e_assign hk rfl _) fun a hk => ?_
    refine lnil (hK5 _ _ ?_)
    refine wp_ret ?_
    simp only [then_ret]
    exact ret1 hk rfl rfl ⟨rfl, hB⟩
  · refine start 26 Tryd.func5 rfl rfl rfl fun a hk => ?_
    refine wp_seq_k fun K1 hK1 => ?_
    refine wp_region_lit ?_
    refine ls hk rfl rfl rfl (e_assign hk rfl _) fun a hk => ?_
    refine lnil (hK1 _ _ ?_)
    refine wp_seq_k fun K2 hK2 => ?_
    have hB : Ext w0 w0 := Below.refl _ _
    refine wp_region_lit ?_
    refine la hk rfl (a_call hk rfl rfl (c_fn (vs := []) hk rfl ok22) (c22 _ (hG.ext hB)) ?_)
    rintro e w ⟨rfl, hE⟩
    refine ⟨_, rfl, fun a hk => ?_⟩
    have hB := ext_trans hB hE
    refine ls hk rfl rfl rfl (e_assign hk rfl _) fun a hk => ?_
    refine lnil (hK2 _ _ ?_)
    refine wp_seq_k fun K3 hK3 => ?_
    refine wp_seq_k fun K4 hK4 => ?_
    refine wp_region_lit ?_
    refine ls hk rfl rfl rfl (e_move hk rfl _) fun a hk => ?_
    refine ls hk rfl rfl rfl (e_lenStr hk rfl Tryd.underlying9 _) fun a hk => ?_
    refine ls hk rfl rfl rfl (e_gtr (b := false) hk rfl rfl (decide_eq_false (by omega)) _) fun a hk => ?_
    refine ls hk rfl rfl rfl (e_move hk rfl _) fun a hk => ?_
    refine ls hk rfl rfl rfl (e_move hk rfl _) fun a hk => ?_
    refine ls hk rfl rfl rfl (e_lenStr hk rfl Tryd.underlying9 _) fun a hk => ?_
    refine ls hk rfl rfl rfl (e_gtr (b := false) hk rfl rfl (decide_eq_false (by omega)) _) fun a hk => ?_
    refine ls hk rfl rfl rfl (e_pickF hk rfl rfl _) fun a hk => ?_
    refine lnil (hK4 _ _ ?_)
    refine cdF hk rfl ?_
    refine wp_skip (hK3 _ _ ?_)
    refine wp_seq_k fun K5 hK5 => ?_
    refine wp_region_lit ?_
    refine ls hk rfl rfl rfl (e_move hk rfl _) fun a hk => ?_
    refine ls hk rfl rfl rfl (e_move hk rfl _) fun a hk => ?_
    refine ls hk rfl rfl rfl (e_move hk rfl _) fun a hk => ?_
    refine ls hk rfl rfl rfl (e_move hk rfl _) fun a hk => ?_
    refine la hk rfl (a_call hk rfl rfl (c_fn hk rfl ok30) (c30 s t _ (hG.ext hB) (by omega) (by omega)) ?_)
    rintro e w ⟨rfl, hE⟩
    refine ⟨_, rfl, fun a hk => ?_⟩
    have hB := ext_trans hB hE
    refine ls hk rfl rfl rfl (e_move hk rfl _) fun a hk => ?_
    refine ls hk rfl rfl rfl (e_move hk rfl _) fun a hk => ?_
    refine la hk rfl (a_call hk rfl rfl (c_fn hk rfl ok31) (c31 s t _ (hGR.ext hB) (by omega) (by omega)) ?_)
    rintro e w ⟨rfl, hE⟩
    refine ⟨_, rfl, fun a hk => ?_⟩
    have hB := ext_trans hB hE
    refine ls hk rfl rfl rfl (e_seql (s := mac s t) (u := mac s t) (b := true) hk rfl rfl (decide_eq_true rfl) _) fun a hk => ?_
    refine ls hk rfl rfl rfl (e_pickT hk rfl rfl _) fun a hk => ?_
    refine ls hk rfl rfl rfl (e_assign hk rfl _) fun a hk => ?_
    refine lnil (hK5 _ _ ?_)
    refine wp_ret ?_
    exact ret1 hk rfl rfl ⟨rfl, hB⟩

end Go.Proofs.YtidfbboalbchiaaDoor
