/- The walk of hash.schedule: it returns the message schedule of a block of 64 bytes. -/
import Derived.Test.YtidfbboalbchiaaDoorA1
import Derived.Test.YtidfbboalbchiaaDoorSha
namespace Go.Proofs.YtidfbboalbchiaaDoor
open Go Go.RowKit

theorem words_set (A R : List UInt32) (x y : UInt32) (n : Nat) (h : n = A.length) : ((A ++ [x] ++ R).map W).toArray.setIfInBounds n (W y) = ((A ++ [y] ++ R).map W).toArray := by
  subst h
  simp
theorem words_get (A R : List UInt32) (x : UInt32) (n : Nat) (h : n = A.length) : ((A ++ [x] ++ R).map W).toArray[n]? = some (W x) := by
  subst h
  simp
theorem words_at (A R : List UInt32) (n i : Nat) (h : n = i) (hi : i < A.length) : ((A ++ R).map W).toArray[n]? = some (W (A.getD i 0)) := by
  subst h
  simp [List.getElem?_append, hi]
theorem bytes_at {w : World} {bb oo n c : Nat} {bs : List UInt8} (h : Rd w (some ⟨bb, oo, none⟩) n c 1 (bs.map B)) (i k : Nat) (hk : k = oo + i) (hi : i < bs.length) : w.cell? ⟨bb, k, none⟩ = some (B (bs.getD i 0)) := by
  subst hk
  obtain ⟨b, o, h1, h2⟩ := h.2.2 i (B (bs.getD i 0)) (by simp [hi])
  cases h1
  exact h2
theorem words_one (l : List UInt32) : ∀ u ∈ (l.map W).toArray, u.oneCell' = true := by
  intro u hu
  simp at hu
  obtain ⟨x, _, rfl⟩ := hu
  rfl
theorem word_take (l : List UInt8) (k : Nat) (h : k < l.length) : word (l.take (k + 1)) = (word (l.take k) <<< UInt32.ofNat 8) ||| (l.getD k 0).toUInt32 := by
  rw [List.take_succ_eq_append_getElem h]
  unfold word
  rw [List.foldl_append]
  simp [h]

set_option maxRecDepth 4000 in
theorem c120 (bs : List UInt8) (bb oo cc : Nat) (w0 : World) (hl : bs.length = 64) (hR : Rd w0 (some ⟨bb, oo, none⟩) 64 cc 1 (bs.map B)) :
    Calls Tryd.prog 120 #[.slice (some ⟨bb, oo, none⟩) 64 cc] w0 fun e w' => e = .returned (.agg ((sched bs 64).map W).toArray) ∧ Ext w0 w' := by
  refine start 79 Tryd.func120 rfl rfl rfl fun a hk => ?_
  refine wp_seq_k fun K1 hK1 => ?_
  refine wp_region_lit ?_
  refine la hk rfl (a_alloc hk rfl zr100 fun a w b2 hk G2 => ?_)
  refine lnil (hK1 _ _ ?_)
  refine wp_seq_k fun K2 hK2 => ?_
  refine wp_region_lit ?_
  refine la hk rfl (a_alloc hk rfl zr100 fun a w b3 hk G3 => ?_)
  refine lnil (hK2 _ _ ?_)
  refine wp_seq_k fun K3 hK3 => ?_
  refine wp_seq_k fun K4 hK4 => ?_
  have hB : Below w0.heap.size w0 w := ext_trans G2.ext G3.ext
  have h2 := ext_at G3.ext G2.at_
  have h3 : w.heap[b3]? = some (.cells ((sched bs 0 ++ List.replicate (64 - 0) 0).map W).toArray 100 (0, 0)) := G3.at_
  have hne : b2 ≠ b3 := G3.ne G2.at_
  have hg2 := G2.ge
  have hg3 : w0.heap.size ≤ b3 := Nat.le_trans G2.ext.size G3.ge
  have hcc := hR.2.1
  clear G2 G3
  refine wp_region_lit ?_
  refine ls hk rfl rfl rfl (e_move hk rfl _) fun a hk => ?_
  refine lnil (hK4 _ _ ?_)
  refine wp_block ?_
  refine loopN (fun n a w => ∃ j : Nat, n = 64 - j ∧ j ≤ 64 ∧ Kn a 79 [(0, .slice (some ⟨bb, oo, none⟩) 64 cc), (2, .pointer (some ⟨b2, 0, none⟩)), (3, .pointer (some ⟨b3, 0, none⟩)), (11, I j)] ∧ Below w0.heap.size w0 w ∧ (∃ z, w.heap[b2]? = some (.cells z 100 (0, 0)) ∧ z.size = 64) ∧ w.heap[b3]? = some (.cells ((sched bs j ++ List.replicate (64 - j) 0).map W).toArray 100 (0, 0))) (64) ?_ fun n a w hI => ?_
  · exact ⟨0, rfl, by omega, hk.sub _ ⟨rfl, rfl, rfl, rfl, trivial⟩, hB, ⟨_, h2, rfl⟩, h3⟩
  clear hB h2 h3
  obtain ⟨j, rfl, hj, hk, hB, ⟨z, h2, hz⟩, h3⟩ := hI
  refine wp_seq_k fun K5 hK5 => ?_
  refine wp_region_lit ?_
  refine ls hk rfl rfl rfl (e_lss hk rfl rfl rfl _) fun a hk => ?_
  refine lnil (hK5 _ _ ?_)
  refine wp_seq_k fun K6 hK6 => ?_
  refine cdB hk rfl (fun hb => ?_) (fun hb => ?_)
  · have hj1 : j < 64 := by have := of_decide_eq_true hb; omega
    refine wp_skip (hK6 _ _ ?_)
    refine wp_seq_k fun K7 hK7 => ?_
    refine wp_block ?_
    refine wp_seq_k fun K8 hK8 => ?_
    refine wp_region_lit ?_
    refine ls hk rfl rfl rfl (e_move hk rfl _) fun a hk => ?_
    refine ls hk rfl rfl rfl (e_assign hk rfl _) fun a hk => ?_
    refine lnil (hK8 _ _ ?_)
    refine wp_seq_k fun K9 hK9 => ?_
    refine wp_seq_k fun K10 hK10 => ?_
    refine wp_region_lit ?_
    refine ls hk rfl rfl rfl (e_move hk rfl _) fun a hk => ?_
    refine ls hk rfl rfl rfl (e_lss hk rfl rfl rfl _) fun a hk => ?_
    refine lnil (hK10 _ _ ?_)
    refine cdB hk rfl (fun hb => ?_) (fun hb => ?_)
    · have h16 : j < 16 := by have := of_decide_eq_true hb; omega
      refine wp_seq_k fun K11 hK11 => ?_
      refine wp_seq_k fun K12 hK12 => ?_
      refine wp_region_lit ?_
      refine ls hk rfl rfl rfl (e_move hk rfl _) fun a hk => ?_
      refine ls hk rfl rfl rfl (e_move hk rfl _) fun a hk => ?_
      refine ls hk rfl rfl rfl (e_mul hk rfl rfl (i64 (by omega) (by omega)) _) fun a hk => ?_
      refine ls hk rfl rfl rfl (e_move hk rfl _) fun a hk => ?_
      refine ls hk rfl rfl rfl (e_mul hk rfl rfl (i64 (by omega) (by omega)) _) fun a hk => ?_
      refine ls hk rfl rfl rfl (e_add hk rfl rfl (i64 (by omega) (by omega)) _) fun a hk => ?_
      refine ls hk rfl rfl rfl (e_slSn (4 * j) 4 hk rfl rfl rfl Tryd.underlying22 sz5 (by omega) (by omega) (by omega) (by omega) _) fun a hk => ?_
      refine ls hk rfl rfl rfl (e_lenS hk rfl Tryd.underlying22 _) fun a hk => ?_
      refine ls hk rfl rfl rfl (e_move hk rfl _) fun a hk => ?_
      refine lnil (hK12 _ _ ?_)
      refine wp_block ?_
      refine loopN (fun n a w => ∃ k : Nat, n = 4 - k ∧ k ≤ 4 ∧ Kn a 79 [(0, .slice (some ⟨bb, oo, none⟩) 64 cc), (2, .pointer (some ⟨b2, 0, none⟩)), (3, .pointer (some ⟨b3, 0, none⟩)), (4, I j), (11, I j), (22, .slice (some ⟨bb, oo + 4 * j * 1, none⟩) 4 (cc - 4 * j)), (23, I (4 : Nat)), (24, I k)] ∧ Below w0.heap.size w0 w ∧ (∃ z, w.heap[b2]? = some (.cells z 100 (0, 0)) ∧ z.size = 64) ∧ w.heap[b3]? = some (.cells ((sched bs j ++ [word (((bs.drop (4 * j)).take 4).take k)] ++ List.replicate (63 - j) 0).map W).toArray 100 (0, 0))) (4) ?_ fun n a w hI => ?_
      · refine ⟨0, rfl, by omega, hk.sub _ ⟨rfl, rfl, rfl, rfl, rfl, rfl, rfl, rfl, trivial⟩, hB, ⟨_, h2, hz⟩, ?_⟩
        rw [h3, show 64 - j = (63 - j) + 1 by omega, List.replicate_succ]
        simp [word]
      clear hB h2 h3 hz
      obtain ⟨k, rfl, hkk, hk, hB, ⟨z, h2, hz⟩, h3⟩ := hI
      refine wp_seq_k fun K13 hK13 => ?_
      refine wp_region_lit ?_
      refine ls hk rfl rfl rfl (e_lss hk rfl rfl rfl _) fun a hk => ?_
      refine lnil (hK13 _ _ ?_)
      refine wp_seq_k fun K14 hK14 => ?_
      refine cdB hk rfl (fun hb => ?_) (fun hb => ?_)
      · have hk4 : k < 4 := by have := of_decide_eq_true hb; omega
        refine wp_skip (hK14 _ _ ?_)
        refine wp_seq_k fun K15 hK15 => ?_
        refine wp_block ?_
        refine wp_seq_k fun K16 hK16 => ?_
        refine wp_region_lit ?_
        refine ls hk rfl rfl rfl (e_idxS1 k hk rfl rfl Tryd.underlying22 sz5 rfl (by omega) _) fun a hk => ?_
        refine ls hk rfl rfl rfl (r_load1 hk rfl Tryd.underlying5 rfl (ext_cell hB (bytes_at hR (4 * j + k) _ (by omega) (by omega)))) fun a hk => ?_
        refine ls hk rfl rfl rfl (e_assign hk rfl _) fun a hk => ?_
        refine lnil (hK16 _ _ ?_)
        refine wp_region_lit ?_
        refine ls hk rfl rfl rfl (e_move hk rfl _) fun a hk => ?_
        refine ls hk rfl rfl rfl (e_move hk rfl _) fun a hk => ?_
        refine ls hk rfl rfl rfl (e_idxA1 j hk rfl rfl Tryd.underlying100 sz29 rfl (by omega) _) fun a hk => ?_
        refine ls hk rfl rfl rfl (r_load hk rfl Tryd.underlying29 rfl h3 (words_get _ _ _ _ (by rw [length_sched]; omega))) fun a hk => ?_
        refine ls hk rfl rfl rfl (e_shl hk rfl rfl (by decide) (w_shl _ 8 (by decide)) _) fun a hk => ?_
        refine ls hk rfl rfl rfl (e_move hk rfl _) fun a hk => ?_
        refine ls hk rfl rfl rfl (e_conv hk rfl Tryd.underlying5 Tryd.underlying29 (b_w _) _) fun a hk => ?_
        refine ls hk rfl rfl rfl (e_or hk rfl rfl (w_or _ _) _) fun a hk => ?_
        refine ls hk rfl rfl rfl (e_idxA1 j hk rfl rfl Tryd.underlying100 sz29 rfl (by omega) _) fun a hk => ?_
        refine la hk rfl (a_store hk rfl rfl rfl sz29 h3 (by simp [length_sched]) fun a w hk W9 => ?_)
        have hB := W9.below hB hg3
        have h2 := W9.keep hne h2
        have h3 := W9.at_
        rw [words_set _ _ _ _ _ (by rw [length_sched]; omega)] at h3
        have hlt : k < ((bs.drop (4 * j)).take 4).length := by simp; omega
        have hw := word_take ((bs.drop (4 * j)).take 4) k hlt
        have hg : ((bs.drop (4 * j)).take 4).getD k 0 = bs.getD (4 * j + k) 0 := by
          have h5 : k < (bs.drop (4 * j)).length := by simp; omega
          simp [hk4]
        rw [hg] at hw
        rw [← hw] at h3
        refine lnil (hK15 _ _ ?_)
        refine wp_region_lit ?_
        refine ls hk rfl rfl rfl (e_add hk rfl rfl (i64 (by omega) (by omega)) _) fun a hk => ?_
        refine ls hk rfl rfl rfl (e_move hk rfl _) fun a hk => ?_
        refine lnil (show ∃ m : Nat, m < _ ∧ _ from ⟨4 - (k + 1), by omega, k + 1, rfl, by omega, hk.sub _ ⟨rfl, rfl, rfl, rfl, rfl, rfl, rfl, rfl, trivial⟩, hB, ⟨_, h2, hz⟩, h3⟩)
      · have hk4 : k = 4 := by have := of_decide_eq_false hb; omega
        subst hk4
        refine wp_exit (hK11 _ _ ?_)
        refine wp_exit (hK7 _ _ ?_)
        have h3 : w.heap[b3]? = some (.cells ((sched bs (j + 1) ++ List.replicate (64 - (j + 1)) 0).map W).toArray 100 (0, 0)) := by
          rw [h3, show 64 - (j + 1) = 63 - j by omega, sched, if_pos h16, List.take_of_length_le (by simp; omega)]
        refine wp_region_lit ?_
        refine ls hk rfl rfl rfl (e_add hk rfl rfl (i64 (by omega) (by omega)) _) fun a hk => ?_
        refine ls hk rfl rfl rfl (e_move hk rfl _) fun a hk => ?_
        refine lnil (show ∃ m : Nat, m < _ ∧ _ from ⟨64 - (j + 1), by omega, j + 1, rfl, by omega, hk.sub _ ⟨rfl, rfl, rfl, rfl, trivial⟩, hB, ⟨_, h2, hz⟩, h3⟩)
    · have h16 : 16 ≤ j := by have := of_decide_eq_false hb; omega
      refine wp_skip (hK9 _ _ ?_)
      refine wp_seq_k fun K17 hK17 => ?_
      refine wp_region_ok (fun _ => True) [0, 0, 0, 1, 0, 0, 0, 1, 0, 0] mixed ?_
      have hB := hB.drew
      refine d0 0 hk rfl (by kernel_rfl) rfl rfl rfl rfl (fun _ => e_move hk rfl _) fun a hk => ?_
      refine d0 1 hk rfl (by kernel_rfl) rfl rfl rfl rfl (fun _ => e_sub hk rfl rfl (i64 (by omega) (by omega)) _) fun a hk => ?_
      refine d0 2 hk rfl (by kernel_rfl) rfl rfl rfl rfl (fun _ => e_idxA1 (j - 15) hk rfl rfl Tryd.underlying100 sz29 (by omega) (by omega) _) fun a hk => ?_
      refine d1 3 hk rfl (by kernel_rfl) rfl rfl rfl rfl (r_load hk rfl Tryd.underlying29 rfl h3 (words_at _ _ _ (j - 15) (by omega) (by rw [length_sched]; omega))) fun a hk => ?_
      refine d0 4 hk rfl (by kernel_rfl) rfl rfl rfl rfl (fun _ => e_move hk rfl _) fun a hk => ?_
      refine d0 5 hk rfl (by kernel_rfl) rfl rfl rfl rfl (fun _ => e_sub hk rfl rfl (i64 (by omega) (by omega)) _) fun a hk => ?_
      refine d0 6 hk rfl (by kernel_rfl) rfl rfl rfl rfl (fun _ => e_idxA1 (j - 2) hk rfl rfl Tryd.underlying100 sz29 (by omega) (by omega) _) fun a hk => ?_
      refine d1 7 hk rfl (by kernel_rfl) rfl rfl rfl rfl (r_load hk rfl Tryd.underlying29 rfl h3 (words_at _ _ _ (j - 2) (by omega) (by rw [length_sched]; omega))) fun a hk => ?_
      refine d0 8 hk rfl (by kernel_rfl) rfl rfl rfl rfl (fun _ => e_assign hk rfl _) fun a hk => ?_
      refine d0 9 hk rfl (by kernel_rfl) rfl rfl rfl rfl (fun _ => e_assign hk rfl _) fun a hk => ?_
      refine okFin (by kernel_rfl) (hK17 _ _ ?_)
      refine wp_seq_k fun K18 hK18 => ?_
      refine wp_region_lit ?_
      refine ls hk rfl rfl rfl (e_move hk rfl _) fun a hk => ?_
      refine la hk rfl (a_call hk rfl rfl (c_fn hk rfl ok132) (c132 _ _ 7 (by decide) (by decide) (by decide) _) ?_)
      rintro e w' ⟨rfl, rfl⟩
      refine ⟨_, rfl, fun a hk => ?_⟩
      refine ls hk rfl rfl rfl (e_move hk rfl _) fun a hk => ?_
      refine la hk rfl (a_call hk rfl rfl (c_fn hk rfl ok132) (c132 _ _ 18 (by decide) (by decide) (by decide) _) ?_)
      rintro e w' ⟨rfl, rfl⟩
      refine ⟨_, rfl, fun a hk => ?_⟩
      refine ls hk rfl rfl rfl (e_xor hk rfl rfl (w_xor _ _) _) fun a hk => ?_
      refine ls hk rfl rfl rfl (e_move hk rfl _) fun a hk => ?_
      refine ls hk rfl rfl rfl (e_shr hk rfl rfl (by decide) (w_shr _ 3 (by decide)) _) fun a hk => ?_
      refine ls hk rfl rfl rfl (e_xor hk rfl rfl (w_xor _ _) _) fun a hk => ?_
      refine ls hk rfl rfl rfl (e_assign hk rfl _) fun a hk => ?_
      refine lnil (hK18 _ _ ?_)
      refine wp_seq_k fun K19 hK19 => ?_
      refine wp_region_lit ?_
      refine ls hk rfl rfl rfl (e_move hk rfl _) fun a hk => ?_
      refine la hk rfl (a_call hk rfl rfl (c_fn hk rfl ok132) (c132 _ _ 17 (by decide) (by decide) (by decide) _) ?_)
      rintro e w' ⟨rfl, rfl⟩
      refine ⟨_, rfl, fun a hk => ?_⟩
      refine ls hk rfl rfl rfl (e_move hk rfl _) fun a hk => ?_
      refine la hk rfl (a_call hk rfl rfl (c_fn hk rfl ok132) (c132 _ _ 19 (by decide) (by decide) (by decide) _) ?_)
      rintro e w' ⟨rfl, rfl⟩
      refine ⟨_, rfl, fun a hk => ?_⟩
      refine ls hk rfl rfl rfl (e_xor hk rfl rfl (w_xor _ _) _) fun a hk => ?_
      refine ls hk rfl rfl rfl (e_move hk rfl _) fun a hk => ?_
      refine ls hk rfl rfl rfl (e_shr hk rfl rfl (by decide) (w_shr _ 10 (by decide)) _) fun a hk => ?_
      refine ls hk rfl rfl rfl (e_xor hk rfl rfl (w_xor _ _) _) fun a hk => ?_
      refine ls hk rfl rfl rfl (e_assign hk rfl _) fun a hk => ?_
      refine lnil (hK19 _ _ ?_)
      refine wp_region_ok (fun _ => True) [0, 0, 0, 0, 1, 0, 0, 0, 0, 0, 1, 0, 0, 0, 0, 2] mixed ?_
      have hB := hB.drew
      refine d0 0 hk rfl (by kernel_rfl) rfl rfl rfl rfl (fun _ => e_move hk rfl _) fun a hk => ?_
      refine d0 1 hk rfl (by kernel_rfl) rfl rfl rfl rfl (fun _ => e_move hk rfl _) fun a hk => ?_
      refine d0 2 hk rfl (by kernel_rfl) rfl rfl rfl rfl (fun _ => e_sub hk rfl rfl (i64 (by omega) (by omega)) _) fun a hk => ?_
      refine d0 3 hk rfl (by kernel_rfl) rfl rfl rfl rfl (fun _ => e_idxA1 (j - 16) hk rfl rfl Tryd.underlying100 sz29 (by omega) (by omega) _) fun a hk => ?_
      refine d1 4 hk rfl (by kernel_rfl) rfl rfl rfl rfl (r_load hk rfl Tryd.underlying29 rfl h3 (words_at _ _ _ (j - 16) (by omega) (by rw [length_sched]; omega))) fun a hk => ?_
      refine d0 5 hk rfl (by kernel_rfl) rfl rfl rfl rfl (fun _ => e_move hk rfl _) fun a hk => ?_
      refine d0 6 hk rfl (by kernel_rfl) rfl rfl rfl rfl (fun _ => e_add hk rfl rfl (w_add _ _) _) fun a hk => ?_
      refine d0 7 hk rfl (by kernel_rfl) rfl rfl rfl rfl (fun _ => e_move hk rfl _) fun a hk => ?_
      refine d0 8 hk rfl (by kernel_rfl) rfl rfl rfl rfl (fun _ => e_sub hk rfl rfl (i64 (by omega) (by omega)) _) fun a hk => ?_
      refine d0 9 hk rfl (by kernel_rfl) rfl rfl rfl rfl (fun _ => e_idxA1 (j - 7) hk rfl rfl Tryd.underlying100 sz29 (by omega) (by omega) _) fun a hk => ?_
      refine d1 10 hk rfl (by kernel_rfl) rfl rfl rfl rfl (r_load hk rfl Tryd.underlying29 rfl h3 (words_at _ _ _ (j - 7) (by omega) (by rw [length_sched]; omega))) fun a hk => ?_
      refine d0 11 hk rfl (by kernel_rfl) rfl rfl rfl rfl (fun _ => e_add hk rfl rfl (w_add _ _) _) fun a hk => ?_
      refine d0 12 hk rfl (by kernel_rfl) rfl rfl rfl rfl (fun _ => e_move hk rfl _) fun a hk => ?_
      refine d0 13 hk rfl (by kernel_rfl) rfl rfl rfl rfl (fun _ => e_add hk rfl rfl (w_add _ _) _) fun a hk => ?_
      refine d0 14 hk rfl (by kernel_rfl) rfl rfl rfl rfl (fun _ => e_idxA1 j hk rfl rfl Tryd.underlying100 sz29 rfl (by omega) _) fun a hk => ?_
      refine da 15 hk rfl (by kernel_rfl) rfl rfl (a_store hk rfl rfl rfl sz29 h3 (by simp [length_sched]; omega) fun a w hk W9 => ?_)
      refine okFin (by kernel_rfl) (hK7 _ _ ?_)
      have hB := W9.below hB hg3
      have h2 := W9.keep hne h2
      have h3 : w.heap[b3]? = some (.cells ((sched bs (j + 1) ++ List.replicate (64 - (j + 1)) 0).map W).toArray 100 (0, 0)) := by
        have h := W9.at_
        rw [show 64 - j = (63 - j) + 1 by omega, List.replicate_succ, show sched bs j ++ 0 :: List.replicate (63 - j) 0 = sched bs j ++ [0] ++ List.replicate (63 - j) 0 by simp,
          words_set _ _ _ _ _ (by rw [length_sched]; omega)] at h
        rw [h, show 64 - (j + 1) = 63 - j by omega, sched, if_neg (by omega)]
        rfl
      refine wp_region_lit ?_
      refine ls hk rfl rfl rfl (e_add hk rfl rfl (i64 (by omega) (by omega)) _) fun a hk => ?_
      refine ls hk rfl rfl rfl (e_move hk rfl _) fun a hk => ?_
      refine lnil (show ∃ m : Nat, m < _ ∧ _ from ⟨64 - (j + 1), by omega, j + 1, rfl, by omega, hk.sub _ ⟨rfl, rfl, rfl, rfl, trivial⟩, hB, ⟨_, h2, hz⟩, h3⟩)
  · have hj1 : j = 64 := by have := of_decide_eq_false hb; omega
    subst hj1
    refine wp_exit (hK3 _ _ ?_)
    refine wp_seq_k fun K20 hK20 => ?_
    refine wp_region_lit ?_
    refine ls hk rfl rfl rfl (r_loadB hk rfl h3 Tryd.underlying100 rfl (by rw [sz100]; simp [length_sched])) fun a hk => ?_
    refine la hk rfl (a_storeB hk rfl rfl (words_one _) (by rw [sz100]; simp [length_sched]) h2 (by rw [hz]; simp [length_sched]) fun a w hk W16 => ?_)
    refine lnil (hK20 _ _ ?_)
    refine wp_ret ?_
    refine retA hk rfl rfl W16.at_ Tryd.underlying100 rfl (by rw [sz100]; simp [length_sched]) ⟨by simp, W16.below hB hg2⟩

end Go.Proofs.YtidfbboalbchiaaDoor
