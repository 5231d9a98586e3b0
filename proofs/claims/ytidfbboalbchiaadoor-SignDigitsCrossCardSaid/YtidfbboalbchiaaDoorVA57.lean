/- The walk of the law of crossing digits. -/
import Derived.Test.YtidfbboalbchiaaDoorT8
namespace Go.Proofs.YtidfbboalbchiaaDoor
open Go Go.RowKit

/-- Is one of the first digits less? -/
def lessB (x y : List UInt8) (n : Nat) : Bool := (List.range n).any fun j => decide (dig x j < dig y j)
theorem lessB_succ (x y : List UInt8) (n : Nat) : lessB x y (n + 1) = (lessB x y n || decide (dig x n < dig y n)) := by
  unfold lessB
  rw [List.range_succ, List.any_append]
  simp
theorem lessB_68 {x y : List UInt8} (hx : x.length = 16) (hy : y.length = 16) (hne : x ≠ y) : lessB x y 68 = true := by
  obtain ⟨i, hi, hlt⟩ := digits_less hx hy hne
  unfold lessB
  rw [List.any_eq_true]
  exact ⟨i, List.mem_range.2 hi, decide_eq_true hlt⟩

set_option maxRecDepth 4000 in
set_option maxHeartbeats 1000000 in
theorem c7 (x y : List UInt8) (hx : x.length = 16) (hy : y.length = 16) (w0 : World) (hG : GH w0) : Calls Tryd.prog 7 #[D x, D y] w0 fun e w' => e = .returned (.bool true) ∧ Ext w0 w' := by
  refine start 64 Tryd.func7 rfl rfl rfl fun a hk => ?_
  have hB : Ext w0 w0 := Below.refl _ _
  refine wp_seq_k fun K1 hK1 => ?_
  refine wp_region_lit ?_
  refine la hk rfl (a_box hk rfl rfl fun a w b2 hk G => ?_)
  have hg_b2 : w0.heap.size ≤ b2 := Nat.le_trans hB.size G.ge
  have hB := ext_trans hB G.ext
  have h_b2 := G.at_
  clear G
  refine la hk rfl (a_box hk rfl rfl fun a w b3 hk G => ?_)
  have n_b2_b3 : b2 ≠ b3 := G.ne h_b2
  have hg_b3 : w0.heap.size ≤ b3 := Nat.le_trans hB.size G.ge
  have h_b2 := ext_at G.ext h_b2
  have hB := ext_trans hB G.ext
  have h_b3 := G.at_
  clear G
  refine ls hk rfl rfl rfl (e_assign hk rfl _) fun a hk => ?_
  refine lnil (hK1 _ _ ?_)
  refine wp_seq_k fun K2 hK2 => ?_
  refine wp_region_lit ?_
  refine la hk rfl (a_call hk rfl rfl (c_fn (vs := []) hk rfl ok33) (c33 _ (hG.ext hB)) ?_)
  rintro e w ⟨rfl, hE⟩
  refine ⟨_, rfl, fun a hk => ?_⟩
  have h_b2 := ext_at hE h_b2
  have h_b3 := ext_at hE h_b3
  have hB := ext_trans hB hE
  clear hE
  refine ls hk rfl rfl rfl (e_assign hk rfl _) fun a hk => ?_
  refine lnil (hK2 _ _ ?_)
  refine wp_seq_k fun K3 hK3 => ?_
  refine wp_region_lit ?_
  refine ls hk rfl rfl rfl (r_ld44 hk rfl h_b2 hx) fun a hk => ?_
  refine la hk rfl (a_call hk rfl rfl (c_fn hk rfl ok34) (c34 x hx _) ?_)
  rintro e w ⟨⟨bx, rfl, hgx, h_bx⟩, hE⟩
  refine ⟨_, rfl, fun a hk => ?_⟩
  have h_b2 := ext_at hE h_b2
  have h_b3 := ext_at hE h_b3
  have hB := ext_trans hB hE
  clear hE
  refine ls hk rfl rfl rfl (e_assign hk rfl _) fun a hk => ?_
  refine lnil (hK3 _ _ ?_)
  refine wp_seq_k fun K4 hK4 => ?_
  refine wp_region_lit ?_
  refine ls hk rfl rfl rfl (r_ld44 hk rfl h_b3 hy) fun a hk => ?_
  refine la hk rfl (a_call hk rfl rfl (c_fn hk rfl ok34) (c34 y hy _) ?_)
  rintro e w ⟨⟨bY, rfl, hgy, h_by⟩, hE⟩
  refine ⟨_, rfl, fun a hk => ?_⟩
  have h_b2 := ext_at hE h_b2
  have h_b3 := ext_at hE h_b3
  have h_bx := ext_at hE h_bx
  have hB := ext_trans hB hE
  clear hE
  refine ls hk rfl rfl rfl (e_assign hk rfl _) fun a hk => ?_
  refine lnil (hK4 _ _ ?_)
  refine wp_seq_k fun K5 hK5 => ?_
  refine wp_seq_k fun K6 hK6 => ?_
  refine wp_region_lit ?_
  refine ls hk rfl rfl rfl (e_move hk rfl _) fun a hk => ?_
  refine ls hk rfl rfl rfl (e_lenS hk rfl Tryd.underlying45 _) fun a hk => ?_
  refine ls hk rfl rfl rfl (e_neq (b := false) hk rfl rfl (by simp) _) fun a hk => ?_
  refine ls hk rfl rfl rfl (e_move hk rfl _) fun a hk => ?_
  refine ls hk rfl rfl rfl (e_move hk rfl _) fun a hk => ?_
  refine ls hk rfl rfl rfl (e_lenS hk rfl Tryd.underlying45 _) fun a hk => ?_
  refine ls hk rfl rfl rfl (e_neq (b := false) hk rfl rfl (by simp) _) fun a hk => ?_
  refine ls hk rfl rfl rfl (e_pickF hk rfl rfl _) fun a hk => ?_
  refine lnil (hK6 _ _ ?_)
  refine cdF hk rfl ?_
  refine wp_skip (hK5 _ _ ?_)
  refine wp_seq_k fun K7 hK7 => ?_
  refine wp_region_lit ?_
  refine ls hk rfl rfl rfl (e_assign hk rfl _) fun a hk => ?_
  refine lnil (hK7 _ _ ?_)
  refine wp_seq_k fun K8 hK8 => ?_
  refine wp_region_lit ?_
  refine ls hk rfl rfl rfl (e_assign hk rfl _) fun a hk => ?_
  refine lnil (hK8 _ _ ?_)
  refine wp_seq_k fun K9 hK9 => ?_
  refine wp_seq_k fun K10 hK10 => ?_
  refine wp_region_lit ?_
  refine ls hk rfl rfl rfl (e_assign hk rfl _) fun a hk => ?_
  refine lnil (hK10 _ _ ?_)
  refine wp_block ?_
  refine loopN (fun n a w => ∃ i : Nat, n = 68 - i ∧ i ≤ 68 ∧ Kn a 64 [(2, .pointer (some ⟨b2, 0, none⟩)), (3, .pointer (some ⟨b3, 0, none⟩)), (5, .bool true), (6, .slice (some ⟨bx, 0, none⟩) 68 68), (7, .slice (some ⟨bY, 0, none⟩) 68 68), (8, .bool (lessB x y i)), (9, .bool (lessB y x i)), (10, I i)] ∧ (Ext w0 w) ∧ (w.heap[b2]? = some (.cells (x.map B).toArray 44 (0, 0))) ∧ (w.heap[b3]? = some (.cells (y.map B).toArray 44 (0, 0))) ∧ (w.heap[bx]? = some (.cells ((digI x).map I).toArray 105 (0, 0))) ∧ (w.heap[bY]? = some (.cells ((digI y).map I).toArray 105 (0, 0)))) (68 - 0) ?_ fun n a w hI => ?_
  · exact ⟨0, rfl, by omega, hk.sub _ ⟨rfl, rfl, rfl, rfl, rfl, rfl, rfl, rfl, trivial⟩, hB, h_b2, h_b3, h_bx, h_by⟩
  clear hk hB h_b2 h_b3 h_bx h_by
  obtain ⟨i, rfl, hi_le, hk, hB, h_b2, h_b3, h_bx, h_by⟩ := hI
  refine wp_seq_k fun K11 hK11 => ?_
  refine wp_seq_k fun K12 hK12 => ?_
  refine wp_region_lit ?_
  refine ls hk rfl rfl rfl (e_move hk rfl _) fun a hk => ?_
  refine ls hk rfl rfl rfl (e_lss hk rfl rfl rfl _) fun a hk => ?_
  refine lnil (hK12 _ _ ?_)
  refine cdB hk rfl (fun hb => ?_) (fun hb => ?_)
  · have hi68 : i < 68 := by have := of_decide_eq_true hb; omega
    refine wp_skip (hK11 _ _ ?_)
    refine wp_seq_k fun K13 hK13 => ?_
    refine wp_block ?_
    refine wp_seq_k fun K14 hK14 => ?_
    cases hq0 : lessB x y i
    · rw [hq0] at hk
      refine wp_region_ok (fun _ => True) [0, 0, 0, 0, 0, 1, 0, 0, 0, 1, 0, 0, 0] mixed ?_
      have hB := hB.drew
      have h_b2 := ext_at (ext_drew w) h_b2
      have h_b3 := ext_at (ext_drew w) h_b3
      have h_bx := ext_at (ext_drew w) h_bx
      have h_by := ext_at (ext_drew w) h_by
      refine d0 0 hk rfl (by kernel_rfl) rfl rfl rfl rfl (fun _ => e_move hk rfl _) fun a hk => ?_
      refine d0 1 hk rfl (by kernel_rfl) rfl rfl rfl rfl (fun _ => e_move hk rfl _) fun a hk => ?_
      refine d0 2 hk rfl (by kernel_rfl) rfl rfl rfl rfl (fun _ => e_move hk rfl _) fun a hk => ?_
      refine d0 3 hk rfl (by kernel_rfl) rfl rfl rfl rfl (fun _ => e_move hk rfl _) fun a hk => ?_
      refine d0 4 hk rfl (by kernel_rfl) rfl rfl rfl rfl (fun _ => e_idxS1 i hk rfl rfl Tryd.underlying45 sz3 rfl hi68 _) fun a hk => ?_
      refine d1 5 hk rfl (by kernel_rfl) rfl rfl rfl rfl (r_load (v := I ((dig x i : Nat) : Int)) hk rfl Tryd.underlying3 rfl h_bx (digI_arr x i hi68)) fun a hk => ?_
      refine d0 6 hk rfl (by kernel_rfl) rfl rfl rfl rfl (fun _ => e_move hk rfl _) fun a hk => ?_
      refine d0 7 hk rfl (by kernel_rfl) rfl rfl rfl rfl (fun _ => e_move hk rfl _) fun a hk => ?_
      refine d0 8 hk rfl (by kernel_rfl) rfl rfl rfl rfl (fun _ => e_idxS1 i hk rfl rfl Tryd.underlying45 sz3 rfl hi68 _) fun a hk => ?_
      refine d1 9 hk rfl (by kernel_rfl) rfl rfl rfl rfl (r_load (v := I ((dig y i : Nat) : Int)) hk rfl Tryd.underlying3 rfl h_by (digI_arr y i hi68)) fun a hk => ?_
      refine d0 10 hk rfl (by kernel_rfl) rfl rfl rfl rfl (fun _ => e_lss (b := lessB x y (i + 1)) hk rfl rfl (by rw [lessB_succ, hq0, Bool.false_or, decide_eq_decide]; omega) _) fun a hk => ?_
      refine d0 11 hk rfl (by kernel_rfl) rfl rfl rfl rfl (fun _ => e_pickF hk rfl rfl _) fun a hk => ?_
      refine d0 12 hk rfl (by kernel_rfl) rfl rfl rfl rfl (fun _ => e_assign hk rfl _) fun a hk => ?_
      refine okFin (by kernel_rfl) (hK14 _ _ ?_)
      cases hq1 : lessB y x i
      · rw [hq1] at hk
        refine wp_region_ok (fun _ => True) [0, 0, 0, 0, 0, 1, 0, 0, 0, 1, 0, 0, 0] mixed ?_
        have hB := hB.drew
        have h_b2 := ext_at (ext_drew w) h_b2
        have h_b3 := ext_at (ext_drew w) h_b3
        have h_bx := ext_at (ext_drew w) h_bx
        have h_by := ext_at (ext_drew w) h_by
        refine d0 0 hk rfl (by kernel_rfl) rfl rfl rfl rfl (fun _ => e_move hk rfl _) fun a hk => ?_
        refine d0 1 hk rfl (by kernel_rfl) rfl rfl rfl rfl (fun _ => e_move hk rfl _) fun a hk => ?_
        refine d0 2 hk rfl (by kernel_rfl) rfl rfl rfl rfl (fun _ => e_move hk rfl _) fun a hk => ?_
        refine d0 3 hk rfl (by kernel_rfl) rfl rfl rfl rfl (fun _ => e_move hk rfl _) fun a hk => ?_
        refine d0 4 hk rfl (by kernel_rfl) rfl rfl rfl rfl (fun _ => e_idxS1 i hk rfl rfl Tryd.underlying45 sz3 rfl hi68 _) fun a hk => ?_
        refine d1 5 hk rfl (by kernel_rfl) rfl rfl rfl rfl (r_load (v := I ((dig x i : Nat) : Int)) hk rfl Tryd.underlying3 rfl h_bx (digI_arr x i hi68)) fun a hk => ?_
        refine d0 6 hk rfl (by kernel_rfl) rfl rfl rfl rfl (fun _ => e_move hk rfl _) fun a hk => ?_
        refine d0 7 hk rfl (by kernel_rfl) rfl rfl rfl rfl (fun _ => e_move hk rfl _) fun a hk => ?_
        refine d0 8 hk rfl (by kernel_rfl) rfl rfl rfl rfl (fun _ => e_idxS1 i hk rfl rfl Tryd.underlying45 sz3 rfl hi68 _) fun a hk => ?_
        refine d1 9 hk rfl (by kernel_rfl) rfl rfl rfl rfl (r_load (v := I ((dig y i : Nat) : Int)) hk rfl Tryd.underlying3 rfl h_by (digI_arr y i hi68)) fun a hk => ?_
        refine d0 10 hk rfl (by kernel_rfl) rfl rfl rfl rfl (fun _ => e_gtr (b := lessB y x (i + 1)) hk rfl rfl (by rw [lessB_succ, hq1, Bool.false_or, decide_eq_decide]; omega) _) fun a hk => ?_
        refine d0 11 hk rfl (by kernel_rfl) rfl rfl rfl rfl (fun _ => e_pickF hk rfl rfl _) fun a hk => ?_
        refine d0 12 hk rfl (by kernel_rfl) rfl rfl rfl rfl (fun _ => e_assign hk rfl _) fun a hk => ?_
        refine okFin (by kernel_rfl) (hK13 _ _ ?_)
        refine wp_region_lit ?_
        refine ls hk rfl rfl rfl (e_move hk rfl _) fun a hk => ?_
        refine ls hk rfl rfl rfl (e_add (q := ((i + 1 : Nat) : Int)) hk rfl rfl (by rw [i64 (by omega) (by omega)]; omega) _) fun a hk => ?_
        refine ls hk rfl rfl rfl (e_assign hk rfl _) fun a hk => ?_
        refine lnil (show ∃ m : Nat, m < _ ∧ _ from ⟨68 - (i + 1), by omega, i + 1, rfl, by omega, hk.sub _ ⟨rfl, rfl, rfl, rfl, rfl, rfl, rfl, rfl, trivial⟩, hB, h_b2, h_b3, h_bx, h_by⟩)
      · rw [hq1] at hk
        refine wp_region_ok (fun _ => True) [0, 0, 0, 0, 0, 1, 0, 0, 0, 1, 0, 0, 0] mixed ?_
        have hB := hB.drew
        have h_b2 := ext_at (ext_drew w) h_b2
        have h_b3 := ext_at (ext_drew w) h_b3
        have h_bx := ext_at (ext_drew w) h_bx
        have h_by := ext_at (ext_drew w) h_by
        refine d0 0 hk rfl (by kernel_rfl) rfl rfl rfl rfl (fun _ => e_move hk rfl _) fun a hk => ?_
        refine d0 1 hk rfl (by kernel_rfl) rfl rfl rfl rfl (fun _ => e_move hk rfl _) fun a hk => ?_
        refine dno 2 hk rfl (by kernel_rfl) rfl rfl rfl fun a hk => ?_
        refine dno 3 hk rfl (by kernel_rfl) rfl rfl rfl fun a hk => ?_
        refine dno 4 hk rfl (by kernel_rfl) rfl rfl rfl fun a hk => ?_
        refine dno 5 hk rfl (by kernel_rfl) rfl rfl rfl fun a hk => ?_
        refine dno 6 hk rfl (by kernel_rfl) rfl rfl rfl fun a hk => ?_
        refine dno 7 hk rfl (by kernel_rfl) rfl rfl rfl fun a hk => ?_
        refine dno 8 hk rfl (by kernel_rfl) rfl rfl rfl fun a hk => ?_
        refine dno 9 hk rfl (by kernel_rfl) rfl rfl rfl fun a hk => ?_
        refine dno 10 hk rfl (by kernel_rfl) rfl rfl rfl fun a hk => ?_
        refine d0 11 hk rfl (by kernel_rfl) rfl rfl rfl rfl (fun _ => e_pickT hk rfl rfl _) fun a hk => ?_
        have hk := hk.lift 51 (v := .bool (lessB y x (i + 1))) (by rw [show lessB y x (i + 1) = true by rw [lessB_succ, hq1]; rfl]; rfl)
        refine d0 12 hk rfl (by kernel_rfl) rfl rfl rfl rfl (fun _ => e_assign hk rfl _) fun a hk => ?_
        refine okFin (by kernel_rfl) (hK13 _ _ ?_)
        refine wp_region_lit ?_
        refine ls hk rfl rfl rfl (e_move hk rfl _) fun a hk => ?_
        refine ls hk rfl rfl rfl (e_add (q := ((i + 1 : Nat) : Int)) hk rfl rfl (by rw [i64 (by omega) (by omega)]; omega) _) fun a hk => ?_
        refine ls hk rfl rfl rfl (e_assign hk rfl _) fun a hk => ?_
        refine lnil (show ∃ m : Nat, m < _ ∧ _ from ⟨68 - (i + 1), by omega, i + 1, rfl, by omega, hk.sub _ ⟨rfl, rfl, rfl, rfl, rfl, rfl, rfl, rfl, trivial⟩, hB, h_b2, h_b3, h_bx, h_by⟩)
    · rw [hq0] at hk
      refine wp_region_ok (fun _ => True) [0, 0, 0, 0, 0, 1, 0, 0, 0, 1, 0, 0, 0] mixed ?_
      have hB := hB.drew
      have h_b2 := ext_at (ext_drew w) h_b2
      have h_b3 := ext_at (ext_drew w) h_b3
      have h_bx := ext_at (ext_drew w) h_bx
      have h_by := ext_at (ext_drew w) h_by
      refine d0 0 hk rfl (by kernel_rfl) rfl rfl rfl rfl (fun _ => e_move hk rfl _) fun a hk => ?_
      refine d0 1 hk rfl (by kernel_rfl) rfl rfl rfl rfl (fun _ => e_move hk rfl _) fun a hk => ?_
      refine dno 2 hk rfl (by kernel_rfl) rfl rfl rfl fun a hk => ?_
      refine dno 3 hk rfl (by kernel_rfl) rfl rfl rfl fun a hk => ?_
      refine dno 4 hk rfl (by kernel_rfl) rfl rfl rfl fun a hk => ?_
      refine dno 5 hk rfl (by kernel_rfl) rfl rfl rfl fun a hk => ?_
      refine dno 6 hk rfl (by kernel_rfl) rfl rfl rfl fun a hk => ?_
      refine dno 7 hk rfl (by kernel_rfl) rfl rfl rfl fun a hk => ?_
      refine dno 8 hk rfl (by kernel_rfl) rfl rfl rfl fun a hk => ?_
      refine dno 9 hk rfl (by kernel_rfl) rfl rfl rfl fun a hk => ?_
      refine dno 10 hk rfl (by kernel_rfl) rfl rfl rfl fun a hk => ?_
      refine d0 11 hk rfl (by kernel_rfl) rfl rfl rfl rfl (fun _ => e_pickT hk rfl rfl _) fun a hk => ?_
      have hk := hk.lift 39 (v := .bool (lessB x y (i + 1))) (by rw [show lessB x y (i + 1) = true by rw [lessB_succ, hq0]; rfl]; rfl)
      refine d0 12 hk rfl (by kernel_rfl) rfl rfl rfl rfl (fun _ => e_assign hk rfl _) fun a hk => ?_
      refine okFin (by kernel_rfl) (hK14 _ _ ?_)
      cases hq1 : lessB y x i
      · rw [hq1] at hk
        refine wp_region_ok (fun _ => True) [0, 0, 0, 0, 0, 1, 0, 0, 0, 1, 0, 0, 0] mixed ?_
        have hB := hB.drew
        have h_b2 := ext_at (ext_drew w) h_b2
        have h_b3 := ext_at (ext_drew w) h_b3
        have h_bx := ext_at (ext_drew w) h_bx
        have h_by := ext_at (ext_drew w) h_by
        refine d0 0 hk rfl (by kernel_rfl) rfl rfl rfl rfl (fun _ => e_move hk rfl _) fun a hk => ?_
        refine d0 1 hk rfl (by kernel_rfl) rfl rfl rfl rfl (fun _ => e_move hk rfl _) fun a hk => ?_
        refine d0 2 hk rfl (by kernel_rfl) rfl rfl rfl rfl (fun _ => e_move hk rfl _) fun a hk => ?_
        refine d0 3 hk rfl (by kernel_rfl) rfl rfl rfl rfl (fun _ => e_move hk rfl _) fun a hk => ?_
        refine d0 4 hk rfl (by kernel_rfl) rfl rfl rfl rfl (fun _ => e_idxS1 i hk rfl rfl Tryd.underlying45 sz3 rfl hi68 _) fun a hk => ?_
        refine d1 5 hk rfl (by kernel_rfl) rfl rfl rfl rfl (r_load (v := I ((dig x i : Nat) : Int)) hk rfl Tryd.underlying3 rfl h_bx (digI_arr x i hi68)) fun a hk => ?_
        refine d0 6 hk rfl (by kernel_rfl) rfl rfl rfl rfl (fun _ => e_move hk rfl _) fun a hk => ?_
        refine d0 7 hk rfl (by kernel_rfl) rfl rfl rfl rfl (fun _ => e_move hk rfl _) fun a hk => ?_
        refine d0 8 hk rfl (by kernel_rfl) rfl rfl rfl rfl (fun _ => e_idxS1 i hk rfl rfl Tryd.underlying45 sz3 rfl hi68 _) fun a hk => ?_
        refine d1 9 hk rfl (by kernel_rfl) rfl rfl rfl rfl (r_load (v := I ((dig y i : Nat) : Int)) hk rfl Tryd.underlying3 rfl h_by (digI_arr y i hi68)) fun a hk => ?_
        refine d0 10 hk rfl (by kernel_rfl) rfl rfl rfl rfl (fun _ => e_gtr (b := lessB y x (i + 1)) hk rfl rfl (by rw [lessB_succ, hq1, Bool.false_or, decide_eq_decide]; omega) _) fun a hk => ?_
        refine d0 11 hk rfl (by kernel_rfl) rfl rfl rfl rfl (fun _ => e_pickF hk rfl rfl _) fun a hk => ?_
        refine d0 12 hk rfl (by kernel_rfl) rfl rfl rfl rfl (fun _ => e_assign hk rfl _) fun a hk => ?_
        refine okFin (by kernel_rfl) (hK13 _ _ ?_)
        refine wp_region_lit ?_
        refine ls hk rfl rfl rfl (e_move hk rfl _) fun a hk => ?_
        refine ls hk rfl rfl rfl (e_add (q := ((i + 1 : Nat) : Int)) hk rfl rfl (by rw [i64 (by omega) (by omega)]; omega) _) fun a hk => ?_
        refine ls hk rfl rfl rfl (e_assign hk rfl _) fun a hk => ?_
        refine lnil (show ∃ m : Nat, m < _ ∧ _ from ⟨68 - (i + 1), by omega, i + 1, rfl, by omega, hk.sub _ ⟨rfl, rfl, rfl, rfl, rfl, rfl, rfl, rfl, trivial⟩, hB, h_b2, h_b3, h_bx, h_by⟩)
      · rw [hq1] at hk
        refine wp_region_ok (fun _ => True) [0, 0, 0, 0, 0, 1, 0, 0, 0, 1, 0, 0, 0] mixed ?_
        have hB := hB.drew
        have h_b2 := ext_at (ext_drew w) h_b2
        have h_b3 := ext_at (ext_drew w) h_b3
        have h_bx := ext_at (ext_drew w) h_bx
        have h_by := ext_at (ext_drew w) h_by
        refine d0 0 hk rfl (by kernel_rfl) rfl rfl rfl rfl (fun _ => e_move hk rfl _) fun a hk => ?_
        refine d0 1 hk rfl (by kernel_rfl) rfl rfl rfl rfl (fun _ => e_move hk rfl _) fun a hk => ?_
        refine dno 2 hk rfl (by kernel_rfl) rfl rfl rfl fun a hk => ?_
        refine dno 3 hk rfl (by kernel_rfl) rfl rfl rfl fun a hk => ?_
        refine dno 4 hk rfl (by kernel_rfl) rfl rfl rfl fun a hk => ?_
        refine dno 5 hk rfl (by kernel_rfl) rfl rfl rfl fun a hk => ?_
        refine dno 6 hk rfl (by kernel_rfl) rfl rfl rfl fun a hk => ?_
        refine dno 7 hk rfl (by kernel_rfl) rfl rfl rfl fun a hk => ?_
        refine dno 8 hk rfl (by kernel_rfl) rfl rfl rfl fun a hk => ?_
        refine dno 9 hk rfl (by kernel_rfl) rfl rfl rfl fun a hk => ?_
        refine dno 10 hk rfl (by kernel_rfl) rfl rfl rfl fun a hk => ?_
        refine d0 11 hk rfl (by kernel_rfl) rfl rfl rfl rfl (fun _ => e_pickT hk rfl rfl _) fun a hk => ?_
        have hk := hk.lift 51 (v := .bool (lessB y x (i + 1))) (by rw [show lessB y x (i + 1) = true by rw [lessB_succ, hq1]; rfl]; rfl)
        refine d0 12 hk rfl (by kernel_rfl) rfl rfl rfl rfl (fun _ => e_assign hk rfl _) fun a hk => ?_
        refine okFin (by kernel_rfl) (hK13 _ _ ?_)
        refine wp_region_lit ?_
        refine ls hk rfl rfl rfl (e_move hk rfl _) fun a hk => ?_
        refine ls hk rfl rfl rfl (e_add (q := ((i + 1 : Nat) : Int)) hk rfl rfl (by rw [i64 (by omega) (by omega)]; omega) _) fun a hk => ?_
        refine ls hk rfl rfl rfl (e_assign hk rfl _) fun a hk => ?_
        refine lnil (show ∃ m : Nat, m < _ ∧ _ from ⟨68 - (i + 1), by omega, i + 1, rfl, by omega, hk.sub _ ⟨rfl, rfl, rfl, rfl, rfl, rfl, rfl, rfl, trivial⟩, hB, h_b2, h_b3, h_bx, h_by⟩)
  · have hi68 : i = 68 := by have := of_decide_eq_false hb; omega
    subst hi68
    refine wp_exit (hK9 _ _ ?_)
    refine wp_seq_k fun K15 hK15 => ?_
    by_cases hxy : x = y
    · refine wp_region_lit ?_
      refine ls hk rfl rfl rfl (e_move hk rfl _) fun a hk => ?_
      refine ls hk rfl rfl rfl (e_move hk rfl _) fun a hk => ?_
      refine ls hk rfl rfl rfl (r_ld44 hk rfl h_b2 hx) fun a hk => ?_
      refine ls hk rfl rfl rfl (r_ld44 hk rfl h_b3 hy) fun a hk => ?_
      refine ls hk rfl rfl rfl (e_eqA (l := x) (r := y) (b := true) hk rfl rfl Tryd.underlying44 Tryd.underlying5 sz5 hx hy eg44 (decide_eq_true hxy) _) fun a hk => ?_
      refine ls hk rfl rfl rfl (e_move hk rfl _) fun a hk => ?_
      refine lno hk rfl rfl rfl fun a hk => ?_
      refine lno hk rfl rfl rfl fun a hk => ?_
      refine lno hk rfl rfl rfl fun a hk => ?_
      refine lno hk rfl rfl rfl fun a hk => ?_
      refine ls hk rfl rfl rfl (e_pickT hk rfl rfl _) fun a hk => ?_
      refine ls hk rfl rfl rfl (e_pickT hk rfl rfl _) fun a hk => ?_
      refine ls hk rfl rfl rfl (e_assign hk rfl _) fun a hk => ?_
      refine lnil (hK15 _ _ ?_)
      refine wp_ret ?_
      first
        | exact ret1 hk rfl rfl ⟨rfl, hB⟩
        | (simp only [then_ret]; exact ret1 hk rfl rfl ⟨rfl, hB⟩)
    · rw [lessB_68 hx hy hxy, lessB_68 hy hx (fun e => hxy e.symm)] at hk
      refine wp_region_lit ?_
      refine ls hk rfl rfl rfl (e_move hk rfl _) fun a hk => ?_
      refine ls hk rfl rfl rfl (e_move hk rfl _) fun a hk => ?_
      refine ls hk rfl rfl rfl (r_ld44 hk rfl h_b2 hx) fun a hk => ?_
      refine ls hk rfl rfl rfl (r_ld44 hk rfl h_b3 hy) fun a hk => ?_
      refine ls hk rfl rfl rfl (e_eqA (l := x) (r := y) (b := false) hk rfl rfl Tryd.underlying44 Tryd.underlying5 sz5 hx hy eg44 (decide_eq_false hxy) _) fun a hk => ?_
      refine ls hk rfl rfl rfl (e_move hk rfl _) fun a hk => ?_
      refine ls hk rfl rfl rfl (e_move hk rfl _) fun a hk => ?_
      refine ls hk rfl rfl rfl (e_move hk rfl _) fun a hk => ?_
      refine ls hk rfl rfl rfl (e_move hk rfl _) fun a hk => ?_
      refine ls hk rfl rfl rfl (e_pickT hk rfl rfl _) fun a hk => ?_
      refine ls hk rfl rfl rfl (e_pickF hk rfl rfl _) fun a hk => ?_
      refine ls hk rfl rfl rfl (e_pickT hk rfl rfl _) fun a hk => ?_
      refine ls hk rfl rfl rfl (e_assign hk rfl _) fun a hk => ?_
      refine lnil (hK15 _ _ ?_)
      refine wp_ret ?_
      first
        | exact ret1 hk rfl rfl ⟨rfl, hB⟩
        | (simp only [then_ret]; exact ret1 hk rfl rfl ⟨rfl, hB⟩)

end Go.Proofs.YtidfbboalbchiaaDoor
