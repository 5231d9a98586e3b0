/- The walks of the specification's rotr and words. -/
import Derived.Test.YtidfbboalbchiaaDoorA12
import Derived.Test.YtidfbboalbchiaaDoorUp
namespace Go.Proofs.YtidfbboalbchiaaDoor
open Go Go.RowKit

theorem c69 (x : UInt32) (n : Nat) (h0 : 0 < n) (h : n < 32) (w0 : World) : Calls Tryd.prog 69 #[W x, I n] w0 fun e w' => e = .returned (W (rotr x n)) ∧ Ext w0 w' := by
  refine start 13 Tryd.func69 rfl rfl rfl fun a hk => ?_
  refine wp_seq_k fun K1 hK1 => ?_
  refine wp_region_lit ?_
  refine ls hk rfl rfl rfl (e_assign hk rfl _) fun a hk => ?_
  refine lnil (hK1 _ _ ?_)
  refine wp_seq_k fun K2 hK2 => ?_
  refine wp_region_ok (fun _ => True) [0, 0, 0, 0, 0, 0, 0, 0, 0] mixed ?_
  refine d0 0 hk rfl (by kernel_rfl) rfl rfl rfl rfl (fun _ => e_move hk rfl _) fun a hk => ?_
  refine d0 1 hk rfl (by kernel_rfl) rfl rfl rfl rfl (fun _ => e_move hk rfl _) fun a hk => ?_
  refine d0 2 hk rfl (by kernel_rfl) rfl rfl rfl rfl (fun _ => e_shr hk rfl rfl (by omega) (w_shr _ _ (by omega)) _) fun a hk => ?_
  refine d0 3 hk rfl (by kernel_rfl) rfl rfl rfl rfl (fun _ => e_move hk rfl _) fun a hk => ?_
  refine d0 4 hk rfl (by kernel_rfl) rfl rfl rfl rfl (fun _ => e_move hk rfl _) fun a hk => ?_
  refine d0 5 hk rfl (by kernel_rfl) rfl rfl rfl rfl (fun _ => e_sub (q := ((32 - n : Nat) : Int)) hk rfl rfl (by rw [i64 (by omega) (by omega)]; omega) _) fun a hk => ?_
  refine d0 6 hk rfl (by kernel_rfl) rfl rfl rfl rfl (fun _ => e_shl hk rfl rfl (by omega) (w_shl _ _ (by omega)) _) fun a hk => ?_
  refine d0 7 hk rfl (by kernel_rfl) rfl rfl rfl rfl (fun _ => e_or hk rfl rfl (w_or _ _) _) fun a hk => ?_
  refine d0 8 hk rfl (by kernel_rfl) rfl rfl rfl rfl (fun _ => e_assign hk rfl _) fun a hk => ?_
  refine okFin (by kernel_rfl) (hK2 _ _ ?_)
  refine wp_ret ?_
  refine ret1 hk rfl rfl ⟨?_, ext_drew _⟩
  simp only [Int.toNat_natCast]
  rw [rotr, UInt32.or_comm]

theorem word_or (p q r s : UInt8) : word [p, q, r, s] = ((p.toUInt32 <<< UInt32.ofNat 24 ||| q.toUInt32 <<< UInt32.ofNat 16) ||| r.toUInt32 <<< UInt32.ofNat 8) ||| s.toUInt32 := by
  apply UInt32.toNat.inj
  rw [word4]
  have hb : ∀ x : UInt8, x.toNat < 256 := fun x => x.toNat_lt
  have hp := hb p; have hq := hb q; have hr := hb r; have hs := hb s
  simp only [UInt32.toNat_or, UInt32.toNat_shiftLeft, UInt8.toNat_toUInt32]
  rw [show (UInt32.ofNat 24).toNat % 32 = 24 from rfl, show (UInt32.ofNat 16).toNat % 32 = 16 from rfl, show (UInt32.ofNat 8).toNat % 32 = 8 from rfl]
  rw [Nat.mod_eq_of_lt (by rw [Nat.shiftLeft_eq]; omega), Nat.mod_eq_of_lt (by rw [Nat.shiftLeft_eq]; omega), Nat.mod_eq_of_lt (by rw [Nat.shiftLeft_eq]; omega)]
  rw [← Nat.shiftLeft_add_eq_or_of_lt (b := q.toNat <<< 16) (i := 24) (by rw [Nat.shiftLeft_eq]; omega)]
  rw [show p.toNat <<< 24 + q.toNat <<< 16 = (p.toNat * 256 + q.toNat) <<< 16 by simp only [Nat.shiftLeft_eq]; omega]
  rw [← Nat.shiftLeft_add_eq_or_of_lt (b := r.toNat <<< 8) (i := 16) (by rw [Nat.shiftLeft_eq]; omega)]
  rw [show (p.toNat * 256 + q.toNat) <<< 16 + r.toNat <<< 8 = ((p.toNat * 256 + q.toNat) * 256 + r.toNat) <<< 8 by simp only [Nat.shiftLeft_eq]; omega]
  rw [← Nat.shiftLeft_add_eq_or_of_lt (b := s.toNat) (i := 8) (by omega)]
  simp only [Nat.shiftLeft_eq]; omega
theorem word_at (bs : List UInt8) (j : Nat) (h : 4 * j + 4 ≤ bs.length) : word ((bs.drop (4 * j)).take 4) = ((((bs.getD (4 * j) 0).toUInt32 <<< UInt32.ofNat 24 ||| (bs.getD (4 * j + 1) 0).toUInt32 <<< UInt32.ofNat 16) ||| (bs.getD (4 * j + 2) 0).toUInt32 <<< UInt32.ofNat 8) ||| (bs.getD (4 * j + 3) 0).toUInt32) := by
  have e : (bs.drop (4 * j)).take 4 = [bs.getD (4 * j) 0, bs.getD (4 * j + 1) 0, bs.getD (4 * j + 2) 0, bs.getD (4 * j + 3) 0] := by
    apply List.ext_getElem?
    intro i
    rw [List.getElem?_take]
    by_cases hi : i < 4
    · rw [if_pos hi, List.getElem?_drop]
      have : i = 0 ∨ i = 1 ∨ i = 2 ∨ i = 3 := by omega
      rcases this with rfl | rfl | rfl | rfl
      · simp [show 4 * j < bs.length by omega]
      · simp [show 4 * j + 1 < bs.length by omega]
      · simp [show 4 * j + 2 < bs.length by omega]
      · simp [show 4 * j + 3 < bs.length by omega]
    · rw [if_neg hi]
      simp; omega
  rw [e, word_or]

set_option maxRecDepth 4000 in
set_option maxHeartbeats 1000000 in
theorem c68 (bs : List UInt8) (bb oo cc : Nat) (w0 : World) (hl : bs.length = 64) (hR : Rd w0 (some ⟨bb, oo, none⟩) 64 cc 1 (bs.map B)) :
    Calls Tryd.prog 68 #[.slice (some ⟨bb, oo, none⟩) 64 cc] w0 fun e w' => e = .returned (.agg ((sched bs 64).map W).toArray) ∧ Ext w0 w' := by
  refine start 101 Tryd.func68 rfl rfl rfl fun a hk => ?_
  refine wp_seq_k fun K1 hK1 => ?_
  refine wp_region_lit ?_
  refine la hk rfl (a_alloc hk rfl zr100 fun a w b2 hk G2 => ?_)
  refine lnil (hK1 _ _ ?_)
  refine wp_seq_k fun K2 hK2 => ?_
  refine wp_region_lit ?_
  refine la hk rfl (a_alloc hk rfl zr100 fun a w b3 hk G3 => ?_)
  refine lnil (hK2 _ _ ?_)
  refine wp_seq_k fun K3 hK3 => ?_
  refine wp_seq_k fun K4 hK4 => ?_
  have hB : Below w0.heap.size w0 w := ext_trans G2.ext G3.ext
  have h2 := ext_at G3.ext G2.at_
  have h3 : w.heap[b3]? = some (.cells ((sched bs 0 ++ List.replicate (64 - 0) 0).map W).toArray 100 (0, 0)) := G3.at_
  have hne : b2 ≠ b3 := G3.ne G2.at_
  have hg2 := G2.ge
  have hg3 : w0.heap.size ≤ b3 := Nat.le_trans G2.ext.size G3.ge
  have hcc := hR.2.1
  clear G2 G3
  refine wp_region_lit ?_
  refine ls hk rfl rfl rfl (e_assign hk rfl _) fun a hk => ?_
  refine lnil (hK4 _ _ ?_)
  refine wp_block ?_
  refine loopN (fun n a w => ∃ j : Nat, n = 16 - j ∧ j ≤ 16 ∧ Kn a 101 [(0, .slice (some ⟨bb, oo, none⟩) 64 cc), (2, .pointer (some ⟨b2, 0, none⟩)), (3, .pointer (some ⟨b3, 0, none⟩)), (4, I j)] ∧ Below w0.heap.size w0 w ∧ (∃ z, w.heap[b2]? = some (.cells z 100 (0, 0)) ∧ z.size = 64) ∧ w.heap[b3]? = some (.cells ((sched bs j ++ List.replicate (64 - j) 0).map W).toArray 100 (0, 0))) (16) ?_ fun n a w hI => ?_
  · exact ⟨0, rfl, by omega, hk.sub _ ⟨rfl, rfl, rfl, rfl, trivial⟩, hB, ⟨_, h2, rfl⟩, h3⟩
  clear hB h2 h3
  obtain ⟨j, rfl, hj, hk, hB, ⟨z, h2, hz⟩, h3⟩ := hI
  refine wp_seq_k fun K5 hK5 => ?_
  refine wp_seq_k fun K6 hK6 => ?_
  refine wp_region_lit ?_
  refine ls hk rfl rfl rfl (e_move hk rfl _) fun a hk => ?_
  refine ls hk rfl rfl rfl (e_lss hk rfl rfl rfl _) fun a hk => ?_
  refine lnil (hK6 _ _ ?_)
  refine cdB hk rfl (fun hb => ?_) (fun hb => ?_)
  · have hj1 : j < 16 := by have := of_decide_eq_true hb; omega
    refine wp_skip (hK5 _ _ ?_)
    refine wp_seq_k fun K7 hK7 => ?_
    refine wp_block ?_
    refine wp_region_ok (fun _ => True) [0, 0, 0, 0, 0, 1, 0, 0, 0, 0, 0, 0, 0, 1, 0, 0, 0, 0, 0, 0, 0, 0, 1, 0, 0, 0, 0, 0, 0, 0, 0, 1, 0, 0, 0, 2] mixed ?_
    have hB := hB.drew
    have h2 : w.drew.heap[b2]? = _ := h2
    have h3 : w.drew.heap[b3]? = _ := h3
    refine d0 0 hk rfl (by kernel_rfl) rfl rfl rfl rfl (fun _ => e_move hk rfl _) fun a hk => ?_
    refine d0 1 hk rfl (by kernel_rfl) rfl rfl rfl rfl (fun _ => e_move hk rfl _) fun a hk => ?_
    refine d0 2 hk rfl (by kernel_rfl) rfl rfl rfl rfl (fun _ => e_move hk rfl _) fun a hk => ?_
    refine d0 3 hk rfl (by kernel_rfl) rfl rfl rfl rfl (fun _ => e_mul (q := ((4 * j : Nat) : Int)) hk rfl rfl (by rw [i64 (by omega) (by omega)]; omega) _) fun a hk => ?_
    refine d0 4 hk rfl (by kernel_rfl) rfl rfl rfl rfl (fun _ => e_idxS1 (4 * j) hk rfl rfl Tryd.underlying22 sz5 rfl (by omega) _) fun a hk => ?_
    refine d1 5 hk rfl (by kernel_rfl) rfl rfl rfl rfl (r_load1 (v := B (bs.getD (4 * j) 0)) hk rfl Tryd.underlying5 rfl (ext_cell hB (bytes_at hR (4 * j) _ (by omega) (by omega)))) fun a hk => ?_
    refine d0 6 hk rfl (by kernel_rfl) rfl rfl rfl rfl (fun _ => e_conv hk rfl Tryd.underlying5 Tryd.underlying29 (b_w _) _) fun a hk => ?_
    refine d0 7 hk rfl (by kernel_rfl) rfl rfl rfl rfl (fun _ => e_shl hk rfl rfl (by decide) (w_shl _ 24 (by decide)) _) fun a hk => ?_
    refine d0 8 hk rfl (by kernel_rfl) rfl rfl rfl rfl (fun _ => e_move hk rfl _) fun a hk => ?_
    refine d0 9 hk rfl (by kernel_rfl) rfl rfl rfl rfl (fun _ => e_move hk rfl _) fun a hk => ?_
    refine d0 10 hk rfl (by kernel_rfl) rfl rfl rfl rfl (fun _ => e_mul (q := ((4 * j : Nat) : Int)) hk rfl rfl (by rw [i64 (by omega) (by omega)]; omega) _) fun a hk => ?_
    refine d0 11 hk rfl (by kernel_rfl) rfl rfl rfl rfl (fun _ => e_add (q := ((4 * j + 1 : Nat) : Int)) hk rfl rfl (by rw [i64 (by omega) (by omega)]; omega) _) fun a hk => ?_
    refine d0 12 hk rfl (by kernel_rfl) rfl rfl rfl rfl (fun _ => e_idxS1 (4 * j + 1) hk rfl rfl Tryd.underlying22 sz5 rfl (by omega) _) fun a hk => ?_
    refine d1 13 hk rfl (by kernel_rfl) rfl rfl rfl rfl (r_load1 (v := B (bs.getD (4 * j + 1) 0)) hk rfl Tryd.underlying5 rfl (ext_cell hB (bytes_at hR (4 * j + 1) _ (by omega) (by omega)))) fun a hk => ?_
    refine d0 14 hk rfl (by kernel_rfl) rfl rfl rfl rfl (fun _ => e_conv hk rfl Tryd.underlying5 Tryd.underlying29 (b_w _) _) fun a hk => ?_
    refine d0 15 hk rfl (by kernel_rfl) rfl rfl rfl rfl (fun _ => e_shl hk rfl rfl (by decide) (w_shl _ 16 (by decide)) _) fun a hk => ?_
    refine d0 16 hk rfl (by kernel_rfl) rfl rfl rfl rfl (fun _ => e_or hk rfl rfl (w_or _ _) _) fun a hk => ?_
    refine d0 17 hk rfl (by kernel_rfl) rfl rfl rfl rfl (fun _ => e_move hk rfl _) fun a hk => ?_
    refine d0 18 hk rfl (by kernel_rfl) rfl rfl rfl rfl (fun _ => e_move hk rfl _) fun a hk => ?_
    refine d0 19 hk rfl (by kernel_rfl) rfl rfl rfl rfl (fun _ => e_mul (q := ((4 * j : Nat) : Int)) hk rfl rfl (by rw [i64 (by omega) (by omega)]; omega) _) fun a hk => ?_
    refine d0 20 hk rfl (by kernel_rfl) rfl rfl rfl rfl (fun _ => e_add (q := ((4 * j + 2 : Nat) : Int)) hk rfl rfl (by rw [i64 (by omega) (by omega)]; omega) _) fun a hk => ?_
    refine d0 21 hk rfl (by kernel_rfl) rfl rfl rfl rfl (fun _ => e_idxS1 (4 * j + 2) hk rfl rfl Tryd.underlying22 sz5 rfl (by omega) _) fun a hk => ?_
    refine d1 22 hk rfl (by kernel_rfl) rfl rfl rfl rfl (r_load1 (v := B (bs.getD (4 * j + 2) 0)) hk rfl Tryd.underlying5 rfl (ext_cell hB (bytes_at hR (4 * j + 2) _ (by omega) (by omega)))) fun a hk => ?_
    refine d0 23 hk rfl (by kernel_rfl) rfl rfl rfl rfl (fun _ => e_conv hk rfl Tryd.underlying5 Tryd.underlying29 (b_w _) _) fun a hk => ?_
    refine d0 24 hk rfl (by kernel_rfl) rfl rfl rfl rfl (fun _ => e_shl hk rfl rfl (by decide) (w_shl _ 8 (by decide)) _) fun a hk => ?_
    refine d0 25 hk rfl (by kernel_rfl) rfl rfl rfl rfl (fun _ => e_or hk rfl rfl (w_or _ _) _) fun a hk => ?_
    refine d0 26 hk rfl (by kernel_rfl) rfl rfl rfl rfl (fun _ => e_move hk rfl _) fun a hk => ?_
    refine d0 27 hk rfl (by kernel_rfl) rfl rfl rfl rfl (fun _ => e_move hk rfl _) fun a hk => ?_
    refine d0 28 hk rfl (by kernel_rfl) rfl rfl rfl rfl (fun _ => e_mul (q := ((4 * j : Nat) : Int)) hk rfl rfl (by rw [i64 (by omega) (by omega)]; omega) _) fun a hk => ?_
    refine d0 29 hk rfl (by kernel_rfl) rfl rfl rfl rfl (fun _ => e_add (q := ((4 * j + 3 : Nat) : Int)) hk rfl rfl (by rw [i64 (by omega) (by omega)]; omega) _) fun a hk => ?_
    refine d0 30 hk rfl (by kernel_rfl) rfl rfl rfl rfl (fun _ => e_idxS1 (4 * j + 3) hk rfl rfl Tryd.underlying22 sz5 rfl (by omega) _) fun a hk => ?_
    refine d1 31 hk rfl (by kernel_rfl) rfl rfl rfl rfl (r_load1 (v := B (bs.getD (4 * j + 3) 0)) hk rfl Tryd.underlying5 rfl (ext_cell hB (bytes_at hR (4 * j + 3) _ (by omega) (by omega)))) fun a hk => ?_
    refine d0 32 hk rfl (by kernel_rfl) rfl rfl rfl rfl (fun _ => e_conv hk rfl Tryd.underlying5 Tryd.underlying29 (b_w _) _) fun a hk => ?_
    refine d0 33 hk rfl (by kernel_rfl) rfl rfl rfl rfl (fun _ => e_or hk rfl rfl (w_or _ _) _) fun a hk => ?_
    refine d0 34 hk rfl (by kernel_rfl) rfl rfl rfl rfl (fun _ => e_idxA1 j hk rfl rfl Tryd.underlying100 sz29 rfl (by omega) _) fun a hk => ?_
    refine da 35 hk rfl (by kernel_rfl) rfl rfl (a_store hk rfl rfl rfl sz29 h3 (by simp [length_sched]; omega) fun a w hk W5 => ?_)
    have hB := W5.below hB hg3
    have h2 := W5.keep hne h2
    have h3 : w.heap[b3]? = some (.cells ((sched bs (j + 1) ++ List.replicate (64 - (j + 1)) 0).map W).toArray 100 (0, 0)) := by
      have h := W5.at_
      rw [show 64 - j = (63 - j) + 1 by omega, List.replicate_succ, show sched bs j ++ 0 :: List.replicate (63 - j) 0 = sched bs j ++ [0] ++ List.replicate (63 - j) 0 by simp,
        words_set _ _ _ _ _ (by rw [length_sched]; omega)] at h
      rw [h, show 64 - (j + 1) = 63 - j by omega, sched, if_pos hj1, word_at bs j (by omega)]
    clear W5
    refine okFin (by kernel_rfl) (hK7 _ _ ?_)
    refine wp_region_lit ?_
    refine ls hk rfl rfl rfl (e_move hk rfl _) fun a hk => ?_
    refine ls hk rfl rfl rfl (e_add hk rfl rfl (i64 (by omega) (by omega)) _) fun a hk => ?_
    refine ls hk rfl rfl rfl (e_assign hk rfl _) fun a hk => ?_
    refine lnil (show ∃ m : Nat, m < _ ∧ _ from ⟨16 - (j + 1), by omega, j + 1, rfl, by omega, hk.sub _ ⟨rfl, rfl, rfl, rfl, trivial⟩, hB, ⟨_, h2, hz⟩, h3⟩)
  · have hj1 : j = 16 := by have := of_decide_eq_false hb; omega
    subst hj1
    refine wp_exit (hK3 _ _ ?_)
    refine wp_seq_k fun K8 hK8 => ?_
    refine wp_seq_k fun K9 hK9 => ?_
    refine wp_region_lit ?_
    refine ls hk rfl rfl rfl (e_assign hk rfl _) fun a hk => ?_
    refine lnil (hK9 _ _ ?_)
    refine wp_block ?_
    refine loopN (fun n a w => ∃ j : Nat, n = 64 - j ∧ 16 ≤ j ∧ j ≤ 64 ∧ Kn a 101 [(0, .slice (some ⟨bb, oo, none⟩) 64 cc), (2, .pointer (some ⟨b2, 0, none⟩)), (3, .pointer (some ⟨b3, 0, none⟩)), (5, I j)] ∧ Below w0.heap.size w0 w ∧ (∃ z, w.heap[b2]? = some (.cells z 100 (0, 0)) ∧ z.size = 64) ∧ w.heap[b3]? = some (.cells ((sched bs j ++ List.replicate (64 - j) 0).map W).toArray 100 (0, 0))) (48) ?_ fun n a w hI => ?_
    · exact ⟨16, rfl, by omega, by omega, hk.sub _ ⟨rfl, rfl, rfl, rfl, trivial⟩, hB, ⟨_, h2, hz⟩, h3⟩
    clear hB h2 h3 hz
    obtain ⟨j, rfl, h16, hj, hk, hB, ⟨z, h2, hz⟩, h3⟩ := hI
    refine wp_seq_k fun K10 hK10 => ?_
    refine wp_seq_k fun K11 hK11 => ?_
    refine wp_region_lit ?_
    refine ls hk rfl rfl rfl (e_move hk rfl _) fun a hk => ?_
    refine ls hk rfl rfl rfl (e_lss hk rfl rfl rfl _) fun a hk => ?_
    refine lnil (hK11 _ _ ?_)
    refine cdB hk rfl (fun hb => ?_) (fun hb => ?_)
    · have hj1 : j < 64 := by have := of_decide_eq_true hb; omega
      refine wp_skip (hK10 _ _ ?_)
      refine wp_seq_k fun K12 hK12 => ?_
      refine wp_block ?_
      refine wp_seq_k fun K13 hK13 => ?_
      refine wp_region_ok (fun w => w.heap[b3]? = some (.cells ((sched bs j ++ List.replicate (64 - j) 0).map W).toArray 100 (0, 0))) [0, 0, 0, 3, 4, 0, 0, 0, 3, 4, 0, 0, 0, 0, 3, 0, 0, 0] mixed ?_
      have hB := hB.drew
      have h2 := ext_at (ext_drew w) h2
      have hS := ext_at (ext_drew w) h3
      refine d0 0 hk rfl (by kernel_rfl) rfl rfl rfl rfl (fun _ => e_move hk rfl _) fun a hk => ?_
      refine d0 1 hk rfl (by kernel_rfl) rfl rfl rfl rfl (fun _ => e_sub (q := ((j - 15 : Nat) : Int)) hk rfl rfl (by rw [i64 (by omega) (by omega)]; omega) _) fun a hk => ?_
      refine d0 2 hk rfl (by kernel_rfl) rfl rfl rfl rfl (fun _ => e_idxA1 (j - 15) hk rfl rfl Tryd.underlying100 sz29 rfl (by omega) _) fun a hk => ?_
      refine d3 3 hk rfl (by kernel_rfl) rfl rfl rfl rfl hS (fun w hS => r_load (v := W ((sched bs j).getD (j - 15) 0)) hk rfl Tryd.underlying29 rfl hS (words_at _ _ _ (j - 15) (by omega) (by rw [length_sched]; omega))) fun a hk => ?_
      refine da4 4 hk rfl (by kernel_rfl) rfl rfl hS (a_call hk rfl rfl (c_fn hk rfl ok69) (c69 _ 7 (by decide) (by decide) _) ?_)
      rintro e w ⟨rfl, hE⟩
      refine ⟨_, rfl, fun a hk => ⟨ext_at hE hS, ?_⟩⟩
      have hS := ext_at hE hS
      have h2 := ext_at hE h2
      have hB := ext_trans hB hE
      clear hE
      refine d0 5 hk rfl (by kernel_rfl) rfl rfl rfl rfl (fun _ => e_move hk rfl _) fun a hk => ?_
      refine d0 6 hk rfl (by kernel_rfl) rfl rfl rfl rfl (fun _ => e_sub (q := ((j - 15 : Nat) : Int)) hk rfl rfl (by rw [i64 (by omega) (by omega)]; omega) _) fun a hk => ?_
      refine d0 7 hk rfl (by kernel_rfl) rfl rfl rfl rfl (fun _ => e_idxA1 (j - 15) hk rfl rfl Tryd.underlying100 sz29 rfl (by omega) _) fun a hk => ?_
      refine d3 8 hk rfl (by kernel_rfl) rfl rfl rfl rfl hS (fun w hS => r_load (v := W ((sched bs j).getD (j - 15) 0)) hk rfl Tryd.underlying29 rfl hS (words_at _ _ _ (j - 15) (by omega) (by rw [length_sched]; omega))) fun a hk => ?_
      refine da4 9 hk rfl (by kernel_rfl) rfl rfl hS (a_call hk rfl rfl (c_fn hk rfl ok69) (c69 _ 18 (by decide) (by decide) _) ?_)
      rintro e w ⟨rfl, hE⟩
      refine ⟨_, rfl, fun a hk => ⟨ext_at hE hS, ?_⟩⟩
      have hS := ext_at hE hS
      have h2 := ext_at hE h2
      have hB := ext_trans hB hE
      clear hE
      refine d0 10 hk rfl (by kernel_rfl) rfl rfl rfl rfl (fun _ => e_xor hk rfl rfl (w_xor _ _) _) fun a hk => ?_
      refine d0 11 hk rfl (by kernel_rfl) rfl rfl rfl rfl (fun _ => e_move hk rfl _) fun a hk => ?_
      refine d0 12 hk rfl (by kernel_rfl) rfl rfl rfl rfl (fun _ => e_sub (q := ((j - 15 : Nat) : Int)) hk rfl rfl (by rw [i64 (by omega) (by omega)]; omega) _) fun a hk => ?_
      refine d0 13 hk rfl (by kernel_rfl) rfl rfl rfl rfl (fun _ => e_idxA1 (j - 15) hk rfl rfl Tryd.underlying100 sz29 rfl (by omega) _) fun a hk => ?_
      refine d3 14 hk rfl (by kernel_rfl) rfl rfl rfl rfl hS (fun w hS => r_load (v := W ((sched bs j).getD (j - 15) 0)) hk rfl Tryd.underlying29 rfl hS (words_at _ _ _ (j - 15) (by omega) (by rw [length_sched]; omega))) fun a hk => ?_
      refine d0 15 hk rfl (by kernel_rfl) rfl rfl rfl rfl (fun _ => e_shr hk rfl rfl (by decide) (w_shr _ 3 (by decide)) _) fun a hk => ?_
      refine d0 16 hk rfl (by kernel_rfl) rfl rfl rfl rfl (fun _ => e_xor hk rfl rfl (w_xor _ _) _) fun a hk => ?_
      refine d0 17 hk rfl (by kernel_rfl) rfl rfl rfl rfl (fun _ => e_assign hk rfl _) fun a hk => ?_
      have h3 := hS
      clear hS
      refine okFin (by kernel_rfl) (hK13 _ _ ?_)
      refine wp_seq_k fun K14 hK14 => ?_
      refine wp_region_ok (fun w => w.heap[b3]? = some (.cells ((sched bs j ++ List.replicate (64 - j) 0).map W).toArray 100 (0, 0))) [0, 0, 0, 3, 4, 0, 0, 0, 3, 4, 0, 0, 0, 0, 3, 0, 0, 0] mixed ?_
      have hB := hB.drew
      have h2 := ext_at (ext_drew w) h2
      have hS := ext_at (ext_drew w) h3
      refine d0 0 hk rfl (by kernel_rfl) rfl rfl rfl rfl (fun _ => e_move hk rfl _) fun a hk => ?_
      refine d0 1 hk rfl (by kernel_rfl) rfl rfl rfl rfl (fun _ => e_sub (q := ((j - 2 : Nat) : Int)) hk rfl rfl (by rw [i64 (by omega) (by omega)]; omega) _) fun a hk => ?_
      refine d0 2 hk rfl (by kernel_rfl) rfl rfl rfl rfl (fun _ => e_idxA1 (j - 2) hk rfl rfl Tryd.underlying100 sz29 rfl (by omega) _) fun a hk => ?_
      refine d3 3 hk rfl (by kernel_rfl) rfl rfl rfl rfl hS (fun w hS => r_load (v := W ((sched bs j).getD (j - 2) 0)) hk rfl Tryd.underlying29 rfl hS (words_at _ _ _ (j - 2) (by omega) (by rw [length_sched]; omega))) fun a hk => ?_
      refine da4 4 hk rfl (by kernel_rfl) rfl rfl hS (a_call hk rfl rfl (c_fn hk rfl ok69) (c69 _ 17 (by decide) (by decide) _) ?_)
      rintro e w ⟨rfl, hE⟩
      refine ⟨_, rfl, fun a hk => ⟨ext_at hE hS, ?_⟩⟩
      have hS := ext_at hE hS
      have h2 := ext_at hE h2
      have hB := ext_trans hB hE
      clear hE
      refine d0 5 hk rfl (by kernel_rfl) rfl rfl rfl rfl (fun _ => e_move hk rfl _) fun a hk => ?_
      refine d0 6 hk rfl (by kernel_rfl) rfl rfl rfl rfl (fun _ => e_sub (q := ((j - 2 : Nat) : Int)) hk rfl rfl (by rw [i64 (by omega) (by omega)]; omega) _) fun a hk => ?_
      refine d0 7 hk rfl (by kernel_rfl) rfl rfl rfl rfl (fun _ => e_idxA1 (j - 2) hk rfl rfl Tryd.underlying100 sz29 rfl (by omega) _) fun a hk => ?_
      refine d3 8 hk rfl (by kernel_rfl) rfl rfl rfl rfl hS (fun w hS => r_load (v := W ((sched bs j).getD (j - 2) 0)) hk rfl Tryd.underlying29 rfl hS (words_at _ _ _ (j - 2) (by omega) (by rw [length_sched]; omega))) fun a hk => ?_
      refine da4 9 hk rfl (by kernel_rfl) rfl rfl hS (a_call hk rfl rfl (c_fn hk rfl ok69) (c69 _ 19 (by decide) (by decide) _) ?_)
      rintro e w ⟨rfl, hE⟩
      refine ⟨_, rfl, fun a hk => ⟨ext_at hE hS, ?_⟩⟩
      have hS := ext_at hE hS
      have h2 := ext_at hE h2
      have hB := ext_trans hB hE
      clear hE
      refine d0 10 hk rfl (by kernel_rfl) rfl rfl rfl rfl (fun _ => e_xor hk rfl rfl (w_xor _ _) _) fun a hk => ?_
      refine d0 11 hk rfl (by kernel_rfl) rfl rfl rfl rfl (fun _ => e_move hk rfl _) fun a hk => ?_
      refine d0 12 hk rfl (by kernel_rfl) rfl rfl rfl rfl (fun _ => e_sub (q := ((j - 2 : Nat) : Int)) hk rfl rfl (by rw [i64 (by omega) (by omega)]; omega) _) fun a hk => ?_
      refine d0 13 hk rfl (by kernel_rfl) rfl rfl rfl rfl (fun _ => e_idxA1 (j - 2) hk rfl rfl Tryd.underlying100 sz29 rfl (by omega) _) fun a hk => ?_
      refine d3 14 hk rfl (by kernel_rfl) rfl rfl rfl rfl hS (fun w hS => r_load (v := W ((sched bs j).getD (j - 2) 0)) hk rfl Tryd.underlying29 rfl hS (words_at _ _ _ (j - 2) (by omega) (by rw [length_sched]; omega))) fun a hk => ?_
      refine d0 15 hk rfl (by kernel_rfl) rfl rfl rfl rfl (fun _ => e_shr hk rfl rfl (by decide) (w_shr _ 10 (by decide)) _) fun a hk => ?_
      refine d0 16 hk rfl (by kernel_rfl) rfl rfl rfl rfl (fun _ => e_xor hk rfl rfl (w_xor _ _) _) fun a hk => ?_
      refine d0 17 hk rfl (by kernel_rfl) rfl rfl rfl rfl (fun _ => e_assign hk rfl _) fun a hk => ?_
      have h3 := hS
      clear hS
      refine okFin (by kernel_rfl) (hK14 _ _ ?_)
      refine wp_region_ok (fun _ => True) [0, 0, 0, 0, 1, 0, 0, 0, 0, 0, 1, 0, 0, 0, 0, 2] mixed ?_
      have hB := hB.drew
      have h2 := ext_at (ext_drew w) h2
      have h3 := ext_at (ext_drew w) h3
      refine d0 0 hk rfl (by kernel_rfl) rfl rfl rfl rfl (fun _ => e_move hk rfl _) fun a hk => ?_
      refine d0 1 hk rfl (by kernel_rfl) rfl rfl rfl rfl (fun _ => e_move hk rfl _) fun a hk => ?_
      refine d0 2 hk rfl (by kernel_rfl) rfl rfl rfl rfl (fun _ => e_sub (q := ((j - 16 : Nat) : Int)) hk rfl rfl (by rw [i64 (by omega) (by omega)]; omega) _) fun a hk => ?_
      refine d0 3 hk rfl (by kernel_rfl) rfl rfl rfl rfl (fun _ => e_idxA1 (j - 16) hk rfl rfl Tryd.underlying100 sz29 rfl (by omega) _) fun a hk => ?_
      refine d1 4 hk rfl (by kernel_rfl) rfl rfl rfl rfl (r_load (v := W ((sched bs j).getD (j - 16) 0)) hk rfl Tryd.underlying29 rfl h3 (words_at _ _ _ (j - 16) (by omega) (by rw [length_sched]; omega))) fun a hk => ?_
      refine d0 5 hk rfl (by kernel_rfl) rfl rfl rfl rfl (fun _ => e_move hk rfl _) fun a hk => ?_
      refine d0 6 hk rfl (by kernel_rfl) rfl rfl rfl rfl (fun _ => e_add hk rfl rfl (w_add _ _) _) fun a hk => ?_
      refine d0 7 hk rfl (by kernel_rfl) rfl rfl rfl rfl (fun _ => e_move hk rfl _) fun a hk => ?_
      refine d0 8 hk rfl (by kernel_rfl) rfl rfl rfl rfl (fun _ => e_sub (q := ((j - 7 : Nat) : Int)) hk rfl rfl (by rw [i64 (by omega) (by omega)]; omega) _) fun a hk => ?_
      refine d0 9 hk rfl (by kernel_rfl) rfl rfl rfl rfl (fun _ => e_idxA1 (j - 7) hk rfl rfl Tryd.underlying100 sz29 rfl (by omega) _) fun a hk => ?_
      refine d1 10 hk rfl (by kernel_rfl) rfl rfl rfl rfl (r_load (v := W ((sched bs j).getD (j - 7) 0)) hk rfl Tryd.underlying29 rfl h3 (words_at _ _ _ (j - 7) (by omega) (by rw [length_sched]; omega))) fun a hk => ?_
      refine d0 11 hk rfl (by kernel_rfl) rfl rfl rfl rfl (fun _ => e_add hk rfl rfl (w_add _ _) _) fun a hk => ?_
      refine d0 12 hk rfl (by kernel_rfl) rfl rfl rfl rfl (fun _ => e_move hk rfl _) fun a hk => ?_
      refine d0 13 hk rfl (by kernel_rfl) rfl rfl rfl rfl (fun _ => e_add hk rfl rfl (w_add _ _) _) fun a hk => ?_
      refine d0 14 hk rfl (by kernel_rfl) rfl rfl rfl rfl (fun _ => e_idxA1 j hk rfl rfl Tryd.underlying100 sz29 rfl (by omega) _) fun a hk => ?_
      refine da 15 hk rfl (by kernel_rfl) rfl rfl (a_store hk rfl rfl rfl sz29 h3 (by simp [length_sched]; omega) fun a w hk W5 => ?_)
      have hB := W5.below hB hg3
      have h2 := W5.keep hne h2
      have h3 : w.heap[b3]? = some (.cells ((sched bs (j + 1) ++ List.replicate (64 - (j + 1)) 0).map W).toArray 100 (0, 0)) := by
        have h := W5.at_
        rw [show 64 - j = (63 - j) + 1 by omega, List.replicate_succ, show sched bs j ++ 0 :: List.replicate (63 - j) 0 = sched bs j ++ [0] ++ List.replicate (63 - j) 0 by simp,
          words_set _ _ _ _ _ (by rw [length_sched]; omega)] at h
        rw [h, show 64 - (j + 1) = 63 - j by omega, sched, if_neg (by omega)]
        rfl
      clear W5
      refine okFin (by kernel_rfl) (hK12 _ _ ?_)
      refine wp_region_lit ?_
      refine ls hk rfl rfl rfl (e_move hk rfl _) fun a hk => ?_
      refine ls hk rfl rfl rfl (e_add hk rfl rfl (i64 (by omega) (by omega)) _) fun a hk => ?_
      refine ls hk rfl rfl rfl (e_assign hk rfl _) fun a hk => ?_
      refine lnil (show ∃ m : Nat, m < _ ∧ _ from ⟨64 - (j + 1), by omega, j + 1, rfl, by omega, by omega, hk.sub _ ⟨rfl, rfl, rfl, rfl, trivial⟩, hB, ⟨_, h2, hz⟩, h3⟩)
    · have hj1 : j = 64 := by have := of_decide_eq_false hb; omega
      subst hj1
      refine wp_exit (hK8 _ _ ?_)
      refine wp_seq_k fun K15 hK15 => ?_
      refine wp_region_lit ?_
      refine ls hk rfl rfl rfl (r_loadB hk rfl h3 Tryd.underlying100 rfl (by rw [sz100]; simp [length_sched])) fun a hk => ?_
      refine la hk rfl (a_storeB hk rfl rfl (words_one _) (by rw [sz100]; simp [length_sched]) h2 (by rw [hz]; simp [length_sched]) fun a w hk W12 => ?_)
      refine lnil (hK15 _ _ ?_)
      refine wp_ret ?_
      refine retA hk rfl rfl W12.at_ Tryd.underlying100 rfl (by rw [sz100]; simp [length_sched]) ⟨by simp, W12.below hB hg2⟩

end Go.Proofs.YtidfbboalbchiaaDoor
