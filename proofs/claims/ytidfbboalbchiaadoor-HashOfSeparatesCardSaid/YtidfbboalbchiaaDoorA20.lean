/- The walks of the specification's Bytes, Input, Short and Of. -/
import Derived.Test.YtidfbboalbchiaaDoorA19
namespace Go.Proofs.YtidfbboalbchiaaDoor
open Go Go.RowKit

set_option maxRecDepth 4000 in
set_option maxHeartbeats 1000000 in
theorem c91 (s : List UInt8) (w0 : World) (h : s.length ≤ 70368744177664) :
    Calls Tryd.prog 91 #[Str s] w0 fun e w' => ∃ ad c, e = .returned (.slice ad (encB s).length c) ∧ w'.ownsRow w0.heap.size 5 1 (.slice ad (encB s).length c) (encB s).length ((encB s).map B) ∧ Ext w0 w' := by
  refine start 9 Tryd.func91 rfl rfl rfl fun a hk => ?_
  have hB : Ext w0 w0 := Below.refl _ _
  refine wp_seq_k fun K1 hK1 => ?_
  refine wp_region_lit ?_
  refine ls hk rfl rfl rfl (e_assign hk rfl _) fun a hk => ?_
  refine lnil (hK1 _ _ ?_)
  refine wp_seq_k fun K2 hK2 => ?_
  refine wp_region_lit ?_
  refine ls hk rfl rfl rfl (e_move hk rfl _) fun a hk => ?_
  refine ls hk rfl rfl rfl (e_lenStr hk rfl Tryd.underlying9 _) fun a hk => ?_
  have hB0 := hB
  refine la hk rfl (a_call hk rfl rfl (c_fn hk rfl ok118) (c118 (s.length : Int) _ (by omega) (by omega)) ?_)
  rintro e w ⟨ad, c, rfl, hown, hE⟩
  refine ⟨_, rfl, fun a hk => ?_⟩
  have hB := ext_trans hB hE
  have hown := own_mono hown hB0.size
  clear hE
  refine ls hk rfl rfl rfl (e_move hk rfl _) fun a hk => ?_
  refine la hk rfl (a_bytes hk rfl rfl Tryd.underlying9 Tryd.underlying22 Tryd.underlying5 fun a w bb cc hk hgb hE hRb => ?_)
  have hown := own_ext hown hE
  have hB := ext_trans hB hE
  have hl8 := length_encI_le (s.length : Int)
  refine la hk rfl (a_app (news := s.map B) hk rfl rfl hown rfl hRb (bytes_one s) Tryd.underlying22 el5 rfl (by decide) (by omega) (by omega) hB.size fun a w v hk hown' hKp => ?_)
  have hB := kept_below hKp hB hown (Nat.le_refl _) hB.size
  clear hown hRb hKp
  obtain ⟨ad, c, rfl, _, _⟩ := Rd.of_own hown'
  have hl : (encI (s.length : Int)).length + s.length = (encB s).length := by rw [encB, List.length_append]
  rw [hl] at hk hown'
  have hown : w.ownsRow w0.heap.size 5 1 (.slice ad (encB s).length c) (encB s).length ((encB s).map B) := by rw [encB, List.map_append]; exact hown'
  refine ls hk rfl rfl rfl (e_assign hk rfl _) fun a hk => ?_
  refine lnil (hK2 _ _ ?_)
  refine wp_ret ?_
  exact ret1 hk rfl rfl ⟨ad, c, rfl, hown, hB⟩

set_option maxRecDepth 4000 in
set_option maxHeartbeats 1000000 in
theorem c42 (n₀ : Int) (ps : List (List UInt8)) (ad0 : Option Addr) (c0 : Nat) (w0 : World) (hR : Rs w0 ad0 ps.length c0 ps) (hn : ps.length ≤ 1000000) (hlen : ∀ x ∈ ps, x.length ≤ 1000000) :
    Calls Tryd.prog 42 #[I n₀, .slice ad0 ps.length c0] w0 fun e w' => ∃ ad c, e = .returned (.slice ad (ofIn n₀ ps).length c) ∧ w'.ownsRow w0.heap.size 5 1 (.slice ad (ofIn n₀ ps).length c) (ofIn n₀ ps).length ((ofIn n₀ ps).map B) ∧ Ext w0 w' := by
  refine start 24 Tryd.func42 rfl rfl rfl fun a hk => ?_
  have hB : Ext w0 w0 := Below.refl _ _
  refine wp_seq_k fun K1 hK1 => ?_
  refine wp_region_lit ?_
  refine ls hk rfl rfl rfl (e_assign hk rfl _) fun a hk => ?_
  refine lnil (hK1 _ _ ?_)
  refine wp_seq_k fun K2 hK2 => ?_
  refine wp_region_lit ?_
  refine ls hk rfl rfl rfl (e_move hk rfl _) fun a hk => ?_
  refine ls hk rfl rfl rfl (e_conv hk rfl Tryd.underlying3 Tryd.underlying5 (i_b _) _) fun a hk => ?_
  refine la hk rfl (a_lit (cells := #[B (byteOf n₀)]) (zv := .int .u8 0) (sz := 1) (by_ := 1) hk rfl rfl Tryd.underlying22 el5 (by decide) (by decide) (lit1 _ _ rfl) rfl fun a w bl hk GL => ?_)
  have hB := ext_trans hB GL.ext
  have hown : w.ownsRow w0.heap.size 5 1 (.slice (some ⟨bl, 0, none⟩) 1 1) 1 ([byteOf n₀].map B) := own_mono (lit_own (n := 1) (sz := 1) GL rfl (by decide)) (Nat.le_refl _)
  clear GL
  refine ls hk rfl rfl rfl (e_assign hk rfl _) fun a hk => ?_
  refine lnil (hK2 _ _ ?_)
  refine wp_seq_k fun K3 hK3 => ?_
  refine wp_seq_k fun K4 hK4 => ?_
  refine wp_region_lit ?_
  refine ls hk rfl rfl rfl (e_assign hk rfl _) fun a hk => ?_
  refine lnil (hK4 _ _ ?_)
  refine wp_block ?_
  refine loopN (fun n a w => ∃ j : Nat, ∃ (ad : Option Addr) (c : Nat), n = ps.length - j ∧ j ≤ ps.length ∧ Kn a 24 [(1, .slice ad0 ps.length c0), (5, .slice ad (byteOf n₀ :: ((ps.take (j)).map encB).flatten).length c), (6, I j)] ∧ (Ext w0 w) ∧ (w.ownsRow w0.heap.size 5 1 (.slice ad (byteOf n₀ :: ((ps.take (j)).map encB).flatten).length c) (byteOf n₀ :: ((ps.take (j)).map encB).flatten).length ((byteOf n₀ :: ((ps.take (j)).map encB).flatten).map B))) (ps.length - 0) ?_ fun n a w hI => ?_
  · exact ⟨0, some ⟨bl, 0, none⟩, 1, rfl, by omega, hk.sub _ ⟨rfl, rfl, rfl, trivial⟩, hB, hown⟩
  clear hk hB
  obtain ⟨j, ad, c, rfl, hi_le, hk, hB, hown⟩ := hI
  refine wp_seq_k fun K5 hK5 => ?_
  refine wp_seq_k fun K6 hK6 => ?_
  refine wp_region_lit ?_
  refine ls hk rfl rfl rfl (e_move hk rfl _) fun a hk => ?_
  refine ls hk rfl rfl rfl (e_move hk rfl _) fun a hk => ?_
  refine ls hk rfl rfl rfl (e_lenS hk rfl Tryd.underlying27 _) fun a hk => ?_
  refine ls hk rfl rfl rfl (e_lss hk rfl rfl rfl _) fun a hk => ?_
  refine lnil (hK6 _ _ ?_)
  refine cdB hk rfl (fun hb => ?_) (fun hb => ?_)
  · have hjl : j < ps.length := by have := of_decide_eq_true hb; omega
    obtain ⟨x, hx⟩ : ∃ x, ps[j]? = some x := ⟨_, List.getElem?_eq_getElem hjl⟩
    obtain ⟨bp, op, rfl, hcell⟩ := Rs.get (Rd.below hR hB (Nat.le_refl _)) j x hx
    have hxl := hlen x (List.mem_of_getElem? hx)
    have hml := mlen (b := byteOf n₀) ps hlen j
    have hel := length_encB x
    refine wp_skip (hK5 _ _ ?_)
    refine wp_seq_k fun K7 hK7 => ?_
    refine wp_block ?_
    refine wp_region_lit ?_
    refine ls hk rfl rfl rfl (e_move hk rfl _) fun a hk => ?_
    refine ls hk rfl rfl rfl (e_move hk rfl _) fun a hk => ?_
    refine ls hk rfl rfl rfl (e_move hk rfl _) fun a hk => ?_
    refine ls hk rfl rfl rfl (e_idxS1 j hk rfl rfl Tryd.underlying27 sz9 rfl hjl _) fun a hk => ?_
    refine ls hk rfl rfl rfl (r_load1 (v := Str x) hk rfl Tryd.underlying9 rfl hcell) fun a hk => ?_
    refine la hk rfl (a_call hk rfl rfl (c_fn hk rfl ok91) (c91 x _ (by omega)) ?_)
    rintro e w ⟨ad2, c2, rfl, hown2, hE⟩
    refine ⟨_, rfl, fun a hk => ?_⟩
    have hB := ext_trans hB hE
    have hown := own_ext hown hE
    obtain ⟨_, _, hv, _, hR2⟩ := Rd.of_own hown2
    cases hv
    clear hE
    refine la hk rfl (a_app (news := (encB x).map B) hk rfl rfl hown rfl hR2 (bytes_one _) Tryd.underlying22 el5 rfl (by decide) (by omega) (by omega) hB.size fun a w v hk hown' hKp => ?_)
    have hB := kept_below hKp hB hown (Nat.le_refl _) hB.size
    clear hown hR2 hKp hown2
    obtain ⟨ad3, c3, rfl, _, _⟩ := Rd.of_own hown'
    rw [← List.length_append, List.cons_append, ← flat_take _ _ _ hx] at hk hown'
    rw [← List.map_append, List.cons_append, ← flat_take _ _ _ hx] at hown'
    have hown := hown'
    clear hown'
    refine ls hk rfl rfl rfl (e_assign hk rfl _) fun a hk => ?_
    refine lnil (hK7 _ _ ?_)
    refine wp_region_lit ?_
    refine ls hk rfl rfl rfl (e_move hk rfl _) fun a hk => ?_
    refine ls hk rfl rfl rfl (e_add hk rfl rfl (i64 (by omega) (by omega)) _) fun a hk => ?_
    refine ls hk rfl rfl rfl (e_assign hk rfl _) fun a hk => ?_
    refine lnil (show ∃ m : Nat, m < _ ∧ _ from ⟨ps.length - (j + 1), by omega, j + 1, _, _, rfl, by omega, hk.sub _ ⟨rfl, rfl, rfl, trivial⟩, hB, hown⟩)
  · have hjl : j = ps.length := by have := of_decide_eq_false hb; omega
    subst hjl
    rw [List.take_length] at hk hown
    refine wp_exit (hK3 _ _ ?_)
    refine wp_seq_k fun K8 hK8 => ?_
    refine wp_region_lit ?_
    refine ls hk rfl rfl rfl (e_move hk rfl _) fun a hk => ?_
    refine ls hk rfl rfl rfl (e_assign hk rfl _) fun a hk => ?_
    refine lnil (hK8 _ _ ?_)
    refine wp_ret ?_
    exact ret1 hk rfl rfl ⟨ad, c, rfl, hown, hB⟩

theorem byte_at (l : List UInt8) (i : Nat) (h : i < l.length) : (l.map B).toArray[0 + i]? = some (B (l.getD i 0)) := by simp [h]
/-- The first i of 16 bytes, the others zero. -/
def part16 (l : List UInt8) (i : Nat) : List UInt8 := l.take i ++ List.replicate (16 - i) 0
theorem length_part16 (l : List UInt8) (i : Nat) (hl : 16 ≤ l.length) (hi : i ≤ 16) : (part16 l i).length = 16 := by simp [part16]; omega
theorem part16_zero (l : List UInt8) : part16 l 0 = zD := by simp [part16, zD]
theorem part16_set (l : List UInt8) (i : Nat) (hl : 16 ≤ l.length) (hi : i < 16) : ((part16 l i).map B).toArray.setIfInBounds (0 + i) (B (l.getD i 0)) = ((part16 l (i + 1)).map B).toArray := by
  have e : part16 l i = l.take i ++ [0] ++ List.replicate (16 - (i + 1)) 0 := by
    rw [part16, show 16 - i = (16 - (i + 1)) + 1 by omega, List.replicate_succ]; simp
  have hi' : i < l.length := by omega
  rw [e, bytes_set _ _ _ _ _ (by simp; omega), part16, List.take_add_one, List.getElem?_eq_getElem hi']
  simp [List.getD_eq_getElem?_getD, hi']
theorem part16_all (l : List UInt8) : part16 l 16 = l.take 16 := by simp [part16]

set_option maxRecDepth 4000 in
set_option maxHeartbeats 1000000 in
theorem c74 (m : List UInt8) (ad0 : Option Addr) (c0 : Nat) (w0 : World) (hR : Rd w0 ad0 m.length c0 1 (m.map B)) (hGR : GR w0) (hl : m.length ≤ 1000000000) :
    Calls Tryd.prog 74 #[.slice ad0 m.length c0] w0 fun e w' => e = .returned (D ((sha m).take 16)) ∧ Ext w0 w' := by
  refine start 19 Tryd.func74 rfl rfl rfl fun a hk => ?_
  have hB : Ext w0 w0 := Below.refl _ _
  refine wp_seq_k fun K1 hK1 => ?_
  refine wp_region_lit ?_
  refine la hk rfl (a_alloc hk rfl zr44 fun a w b2 hk G => ?_)
  have hg_b2 : w0.heap.size ≤ b2 := Nat.le_trans hB.size G.ge
  have hB := ext_trans hB G.ext
  have h_b2 := G.at_
  clear G
  refine lnil (hK1 _ _ ?_)
  refine wp_seq_k fun K2 hK2 => ?_
  refine wp_region_lit ?_
  refine ls hk rfl rfl rfl (e_move hk rfl _) fun a hk => ?_
  refine la hk rfl (a_call hk rfl rfl (c_fn hk rfl ok24) (c24 m ad0 c0 _ (hR.ext hB) (hGR.ext hB) hl) ?_)
  rintro e w ⟨rfl, hE⟩
  refine ⟨_, rfl, fun a hk => ?_⟩
  have h_b2 := ext_at hE h_b2
  have hB := ext_trans hB hE
  clear hE
  refine la hk rfl (a_alloc hk rfl zr24 fun a w b3 hk G => ?_)
  have n_b2_b3 : b2 ≠ b3 := G.ne h_b2
  have hg_b3 : w0.heap.size ≤ b3 := Nat.le_trans hB.size G.ge
  have h_b2 := ext_at G.ext h_b2
  have hB := ext_trans hB G.ext
  have h_b3 := G.at_
  clear G
  refine la hk rfl (a_storeB hk rfl rfl (bytes_oneA _) (by rw [sz24]; simp [length_sha]) h_b3 (by simp [length_sha, Value.cells]) fun a w hk W => ?_)
  have h_b2 := W.keep n_b2_b3 h_b2
  have hB := W.below hB hg_b3
  have h_b3 := W.at_
  clear W
  refine lnil (hK2 _ _ ?_)
  refine wp_seq_k fun K3 hK3 => ?_
  refine wp_region_lit ?_
  refine ls hk rfl rfl rfl (e_zero44 hk _) fun a hk => ?_
  refine la hk rfl (a_alloc hk rfl zr44 fun a w b4 hk G => ?_)
  have n_b2_b4 : b2 ≠ b4 := G.ne h_b2
  have n_b3_b4 : b3 ≠ b4 := G.ne h_b3
  have hg_b4 : w0.heap.size ≤ b4 := Nat.le_trans hB.size G.ge
  have h_b2 := ext_at G.ext h_b2
  have h_b3 := ext_at G.ext h_b3
  have hB := ext_trans hB G.ext
  have h_b4 := G.at_
  clear G
  refine la hk rfl (a_st44 hk rfl rfl rfl h_b4 rfl fun a w hk W => ?_)
  have h_b2 := W.keep n_b2_b4 h_b2
  have h_b3 := W.keep n_b3_b4 h_b3
  have hB := W.below hB hg_b4
  have h_b4 := W.at_
  clear W
  rw [← part16_zero (sha m)] at h_b4
  have hs : (sha m).length = 32 := length_sha m
  have hz2 : ∃ cs : Array Value, cs.size = 16 ∧ w.heap[b2]? = some (.cells cs 44 (0, 0)) := ⟨_, rfl, h_b2⟩
  clear h_b2
  obtain ⟨cs2, hz2, h_b2⟩ := hz2
  refine lnil (hK3 _ _ ?_)
  refine wp_seq_k fun K4 hK4 => ?_
  refine wp_seq_k fun K5 hK5 => ?_
  refine wp_region_lit ?_
  refine ls hk rfl rfl rfl (e_assign hk rfl _) fun a hk => ?_
  refine lnil (hK5 _ _ ?_)
  refine wp_block ?_
  refine loopN (fun n a w => ∃ i : Nat, n = 16 - i ∧ i ≤ 16 ∧ Kn a 19 [(2, .pointer (some ⟨b2, 0, none⟩)), (3, .pointer (some ⟨b3, 0, none⟩)), (4, .pointer (some ⟨b4, 0, none⟩)), (5, I i)] ∧ (Ext w0 w) ∧ (w.heap[b2]? = some (.cells cs2 44 (0, 0))) ∧ (w.heap[b3]? = some (.cells ((sha m).map B).toArray 24 (0, 0))) ∧ (w.heap[b4]? = some (.cells ((part16 (sha m) i).map B).toArray 44 (0, 0)))) (16 - 0) ?_ fun n a w hI => ?_
  · exact ⟨0, rfl, by omega, hk.sub _ ⟨rfl, rfl, rfl, rfl, trivial⟩, hB, h_b2, h_b3, h_b4⟩
  clear hk hB h_b2 h_b3 h_b4
  obtain ⟨i, rfl, hi_le, hk, hB, h_b2, h_b3, h_b4⟩ := hI
  refine wp_seq_k fun K6 hK6 => ?_
  refine wp_seq_k fun K7 hK7 => ?_
  refine wp_region_lit ?_
  refine ls hk rfl rfl rfl (e_move hk rfl _) fun a hk => ?_
  refine ls hk rfl rfl rfl (e_lss hk rfl rfl rfl _) fun a hk => ?_
  refine lnil (hK7 _ _ ?_)
  refine cdB hk rfl (fun hb => ?_) (fun hb => ?_)
  · have hi : i < 16 := by have := of_decide_eq_true hb; omega
    refine wp_skip (hK6 _ _ ?_)
    refine wp_seq_k fun K8 hK8 => ?_
    refine wp_block ?_
    refine wp_region_lit ?_
    refine ls hk rfl rfl rfl (e_move hk rfl _) fun a hk => ?_
    refine ls hk rfl rfl rfl (e_move hk rfl _) fun a hk => ?_
    refine ls hk rfl rfl rfl (e_idxA1 i hk rfl rfl Tryd.underlying24 sz5 rfl (by omega) _) fun a hk => ?_
    refine ls hk rfl rfl rfl (r_load hk rfl Tryd.underlying5 rfl h_b3 (byte_at _ i (by omega))) fun a hk => ?_
    refine ls hk rfl rfl rfl (e_idxA1 i hk rfl rfl Tryd.underlying44 sz5 rfl hi _) fun a hk => ?_
    refine la hk rfl (a_store hk rfl rfl rfl sz5 h_b4 (by simp [length_part16, hs, hi_le]; omega) fun a w hk W => ?_)
    have h_b2 := W.keep n_b2_b4 h_b2
    have h_b3 := W.keep n_b3_b4 h_b3
    have hB := W.below hB hg_b4
    have h_b4 := W.at_
    clear W
    rw [part16_set (sha m) i (by omega) hi] at h_b4
    refine lnil (hK8 _ _ ?_)
    refine wp_region_lit ?_
    refine ls hk rfl rfl rfl (e_move hk rfl _) fun a hk => ?_
    refine ls hk rfl rfl rfl (e_add hk rfl rfl (i64 (by omega) (by omega)) _) fun a hk => ?_
    refine ls hk rfl rfl rfl (e_assign hk rfl _) fun a hk => ?_
    refine lnil (show ∃ m : Nat, m < _ ∧ _ from ⟨16 - (i + 1), by omega, i + 1, rfl, by omega, hk.sub _ ⟨rfl, rfl, rfl, rfl, trivial⟩, hB, h_b2, h_b3, h_b4⟩)
  · have hi : i = 16 := by have := of_decide_eq_false hb; omega
    subst hi
    rw [part16_all] at h_b4
    refine wp_exit (hK4 _ _ ?_)
    refine wp_seq_k fun K9 hK9 => ?_
    refine wp_region_lit ?_
    refine ls hk rfl rfl rfl (r_ld44 hk rfl h_b4 (by simp [hs])) fun a hk => ?_
    refine la hk rfl (a_st44 hk rfl rfl (by simp [hs]) h_b2 hz2 fun a w hk W => ?_)
    have h_b3 := W.keep (Ne.symm n_b2_b3) h_b3
    have h_b4 := W.keep (Ne.symm n_b2_b4) h_b4
    have hB := W.below hB hg_b2
    have h_b2 := W.at_
    clear W
    refine lnil (hK9 _ _ ?_)
    refine wp_ret ?_
    exact ret44 hk rfl rfl h_b2 (by simp [hs]) ⟨rfl, hB⟩

set_option maxRecDepth 4000 in
set_option maxHeartbeats 1000000 in
theorem c36 (n₀ : Int) (ps : List (List UInt8)) (ad0 : Option Addr) (c0 : Nat) (w0 : World) (hR : Rs w0 ad0 ps.length c0 ps) (hGR : GR w0) (hn : ps.length ≤ 900) (hlen : ∀ x ∈ ps, x.length ≤ 1000000) :
    Calls Tryd.prog 36 #[I n₀, .slice ad0 ps.length c0] w0 fun e w' => e = .returned (D (ofD n₀ ps)) ∧ Ext w0 w' := by
  refine start 9 Tryd.func36 rfl rfl rfl fun a hk => ?_
  have hB : Ext w0 w0 := Below.refl _ _
  refine wp_seq_k fun K1 hK1 => ?_
  refine wp_region_lit ?_
  refine la hk rfl (a_alloc hk rfl zr44 fun a w b4 hk G => ?_)
  have hg_b4 : w0.heap.size ≤ b4 := Nat.le_trans hB.size G.ge
  have hB := ext_trans hB G.ext
  have h_b4 := G.at_
  clear G
  refine lnil (hK1 _ _ ?_)
  refine wp_seq_k fun K2 hK2 => ?_
  refine wp_region_lit ?_
  refine ls hk rfl rfl rfl (e_move hk rfl _) fun a hk => ?_
  refine ls hk rfl rfl rfl (e_move hk rfl _) fun a hk => ?_
  refine la hk rfl (a_call hk rfl rfl (c_fn hk rfl ok42) (c42 n₀ ps ad0 c0 _ (Rd.ext hR hB) (by omega) hlen) ?_)
  rintro e w ⟨ad2, c2, rfl, hown2, hE⟩
  refine ⟨_, rfl, fun a hk => ?_⟩
  have h_b4 := ext_at hE h_b4
  have hB := ext_trans hB hE
  obtain ⟨_, _, hv, _, hR2⟩ := Rd.of_own hown2
  cases hv
  have hml := mlen (b := byteOf n₀) ps hlen ps.length
  rw [List.take_length] at hml
  clear hE
  refine la hk rfl (a_call hk rfl rfl (c_fn hk rfl ok74) (c74 (ofIn n₀ ps) ad2 c2 _ hR2 (hGR.ext hB) (by rw [ofIn]; omega)) ?_)
  rintro e w ⟨rfl, hE⟩
  refine ⟨_, rfl, fun a hk => ?_⟩
  have h_b4 := ext_at hE h_b4
  have hB := ext_trans hB hE
  clear hE
  refine la hk rfl (a_st44 hk rfl rfl (by simp [length_sha]) h_b4 rfl fun a w hk W => ?_)
  have hB := W.below hB hg_b4
  have h_b4 := W.at_
  clear W
  refine lnil (hK2 _ _ ?_)
  refine wp_ret ?_
  exact ret44 hk rfl rfl h_b4 (by simp [length_sha]) ⟨rfl, hB⟩

end Go.Proofs.YtidfbboalbchiaaDoor
