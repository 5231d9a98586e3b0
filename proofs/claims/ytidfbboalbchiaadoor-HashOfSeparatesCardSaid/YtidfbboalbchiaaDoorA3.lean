/- The walk of hash.compress: it updates the hash value with a block of 64 bytes. -/
import Derived.Test.YtidfbboalbchiaaDoorA2
namespace Go.Proofs.YtidfbboalbchiaaDoor
open Go Go.RowKit

def S8.lo (s : S8) : List UInt32 := [s.a, s.b, s.c, s.d]
def S8.hi (s : S8) : List UInt32 := [s.e, s.f, s.g, s.h]
/-- The hash value while it is updated: the first i words of each half are. -/
def mid (s v : S8) (i : Nat) : List UInt32 := (List.range 8).map fun j => if j % 4 < i then s.list.getD j 0 + v.list.getD j 0 else s.list.getD j 0
theorem length_mid (s v : S8) (i : Nat) : (mid s v i).length = 8 := by simp [mid]
theorem mid0 (s v : S8) : mid s v 0 = s.list := rfl
theorem mid4 (s v : S8) : mid s v 4 = (s.add v).list := rfl
theorem range_set (f : Nat → UInt32) (n i : Nat) (x : UInt32) : ((List.range n).map f).set i x = (List.range n).map fun j => if j = i then x else f j := by
  apply List.ext_getElem?
  intro j
  rw [List.getElem?_set]
  by_cases hj : j < n
  · by_cases hij : i = j
    · subst hij; simp [hj]
    · simp [hij, hj, Ne.symm hij]
  · by_cases hij : i = j
    · subst hij; simp [hj]
    · simp [hij, hj]
theorem mid_step (s v : S8) (i : Nat) (hi : i < 4) : ((mid s v i).set i (s.list.getD i 0 + v.list.getD i 0)).set (i + 4) (s.list.getD (i + 4) 0 + v.list.getD (i + 4) 0) = mid s v (i + 1) := by
  unfold mid
  rw [range_set, range_set]
  apply List.map_congr_left
  intro j hj
  have hj8 : j < 8 := List.mem_range.1 hj
  by_cases h1 : j = i + 4
  · subst h1
    rw [if_pos rfl, if_pos (by omega)]
  · rw [if_neg h1]
    by_cases h2 : j = i
    · subst h2
      rw [if_pos rfl, if_pos (by omega)]
    · rw [if_neg h2]
      by_cases h3 : j % 4 < i
      · rw [if_pos h3, if_pos (by omega)]
      · rw [if_neg h3, if_neg (by omega)]
theorem mid_at (s v : S8) (i : Nat) (hi : i < 4) : (mid s v i)[i]? = some (s.list.getD i 0) := by
  unfold mid
  simp [show i < 8 by omega, show ¬ i % 4 < i by omega]
theorem mid_at4 (s v : S8) (i : Nat) (hi : i < 4) (x : UInt32) : ((mid s v i).set i x)[i + 4]? = some (s.list.getD (i + 4) 0) := by
  rw [List.getElem?_set]
  unfold mid
  simp [show i + 4 < 8 by omega, show ¬ i % 4 < i by omega]
theorem map_set_w (l : List UInt32) (i n : Nat) (x : UInt32) (h : n = i) : ((l.map W).toArray).setIfInBounds n (W x) = ((l.set i x).map W).toArray := by
  subst h
  simp [List.map_set]
theorem map_get_w (l : List UInt32) (i n : Nat) (x : UInt32) (h : n = i) (hx : l[i]? = some x) : (l.map W).toArray[n]? = some (W x) := by
  subst h
  simp [hx]
theorem four (p : Nat → Prop) (h0 : p 0) (h1 : p 1) (h2 : p 2) (h3 : p 3) : ∀ i, i < 4 → p i := by
  intro i hi
  have : i = 0 ∨ i = 1 ∨ i = 2 ∨ i = 3 := by omega
  rcases this with rfl | rfl | rfl | rfl <;> assumption
theorem range_ext {w w' : World} {b o : Nat} {xs : List Value} (hE : Ext w w') (h : w.rangeAt b o xs) : w'.rangeAt b o xs := fun j u hu => ext_cell hE (h j u hu)
/-- The constants' variable of package hash. -/
def GH (w : World) : Prop := w.rangeAt 1 0 (kc.map W)
theorem GH.ext {w w' : World} (h : GH w) (hE : Ext w w') : GH w' := range_ext hE h
theorem cmp_words (x y z : UInt32) : x ^^^ y ^^^ z = x ^^^ y ^^^ z := rfl

set_option maxRecDepth 4000 in
set_option maxHeartbeats 1000000 in
theorem c70 (s : S8) (bs : List UInt8) (bb oo cc : Nat) (w0 : World) (hl : bs.length = 64) (hR : Rd w0 (some ⟨bb, oo, none⟩) 64 cc 1 (bs.map B)) (hG : GH w0) :
    Calls Tryd.prog 70 #[.agg (s.list.map W).toArray, .slice (some ⟨bb, oo, none⟩) 64 cc] w0 fun e w' => e = .returned (.agg ((compress s bs).list.map W).toArray) ∧ Ext w0 w' := by
  refine start 116 Tryd.func70 rfl rfl rfl fun a hk => ?_
  refine wp_seq_k fun K1 hK1 => ?_
  refine wp_region_lit ?_
  refine la hk rfl (a_box hk rfl rfl fun a w b2 hk G2 => ?_)
  refine la hk rfl (a_alloc hk rfl zr30 fun a w b4 hk G4 => ?_)
  refine lnil (hK1 _ _ ?_)
  refine wp_seq_k fun K2 hK2 => ?_
  have hB : Below w0.heap.size w0 w := ext_trans G2.ext G4.ext
  have h2 : w.heap[b2]? = some (.cells ((s.list).map W).toArray 30 (0, 0)) := ext_at G4.ext G2.at_
  have h4 := G4.at_
  have n24 : b2 ≠ b4 := G4.ne G2.at_
  have hg2 := G2.ge
  have hg4 : w0.heap.size ≤ b4 := Nat.le_trans G2.ext.size G4.ge
  clear G2 G4
  refine wp_region_lit ?_
  refine ls hk rfl rfl rfl (e_move hk rfl _) fun a hk => ?_
  refine la hk rfl (a_call hk rfl rfl (c_fn hk rfl ok120) (c120 bs bb oo cc _ hl (hR.ext hB)) ?_)
  rintro e w ⟨rfl, hE⟩
  refine ⟨_, rfl, fun a hk => ?_⟩
  have h2 := ext_at hE h2
  have h4 := ext_at hE h4
  have hB := ext_trans hB hE
  clear hE
  refine la hk rfl (a_alloc hk rfl zr100 fun a w b5 hk G5 => ?_)
  have n25 : b2 ≠ b5 := G5.ne h2
  have n45 : b4 ≠ b5 := G5.ne h4
  have hg5 : w0.heap.size ≤ b5 := Nat.le_trans hB.size G5.ge
  have hB := ext_trans hB G5.ext
  have h2 := ext_at G5.ext h2
  have h4 := ext_at G5.ext h4
  refine la hk rfl (a_storeB hk rfl rfl (words_one _) (by rw [sz100]; simp [length_sched]) G5.at_ (by simp [Value.cells, length_sched]) fun a w hk W5 => ?_)
  have hB := W5.below hB hg5
  have h2 := W5.keep n25 h2
  have h4 := W5.keep n45 h4
  have h5 := W5.at_
  have hsz := hB.size
  clear G5 W5
  refine lnil (hK2 _ _ ?_)
  refine wp_seq_k fun K3 hK3 => ?_
  have hJ3 : ∀ (a : Act) (w : World), ∀ (b6 b7 : Nat), Kn a 116 [(2, .pointer (some ⟨b2, 0, none⟩)), (4, .pointer (some ⟨b4, 0, none⟩)), (5, .pointer (some ⟨b5, 0, none⟩)), (6, .pointer (some ⟨b6, 0, none⟩)), (7, .pointer (some ⟨b7, 0, none⟩))] ∧ Below w0.heap.size w0 w ∧ w.heap[b2]? = some (.cells ((s.list).map W).toArray 30 (0, 0)) ∧ w.heap[b4]? = some (.cells (Value.agg (List.replicate 8 (Value.int .u32 0)).toArray).cells 30 (0, 0)) ∧ w.heap[b5]? = some (.cells ((sched bs 64).map W).toArray 100 (0, 0)) ∧ w.heap[b6]? = some (.cells ((s.lo).map W).toArray 154 (0, 0)) ∧ w.heap[b7]? = some (.cells ((s.hi).map W).toArray 154 (0, 0)) ∧ b2 ≠ b6 ∧ b2 ≠ b7 ∧ b4 ≠ b6 ∧ b4 ≠ b7 ∧ b5 ≠ b6 ∧ b5 ≠ b7 ∧ b6 ≠ b7 ∧ w0.heap.size ≤ b6 ∧ w0.heap.size ≤ b7 → K3 a w := by
    intro a w b6 b7 ⟨hk, hB, h2, h4, h5, h6, h7, n26, n27, n46, n47, n56, n57, n67, hg6, hg7⟩
    refine hK3 _ _ ?_
    refine wp_seq_k fun K4 hK4 => ?_
    refine wp_seq_k fun K5 hK5 => ?_
    refine wp_region_lit ?_
    refine ls hk rfl rfl rfl (r_loadR (xs := kc.map W) hk rfl (hG.ext hB) Tryd.underlying100 rfl sz100) fun a hk => ?_
    refine ls hk rfl rfl rfl (e_move hk rfl _) fun a hk => ?_
    refine lnil (hK5 _ _ ?_)
    refine wp_block ?_
    refine loopN (fun n a w => ∃ t : Nat, n = 64 - t ∧ t ≤ 64 ∧ Kn a 116 [(2, .pointer (some ⟨b2, 0, none⟩)), (4, .pointer (some ⟨b4, 0, none⟩)), (5, .pointer (some ⟨b5, 0, none⟩)), (6, .pointer (some ⟨b6, 0, none⟩)), (7, .pointer (some ⟨b7, 0, none⟩)), (21, .agg (kc.map W).toArray), (22, I t)] ∧ Below w0.heap.size w0 w ∧ w.heap[b2]? = some (.cells ((s.list).map W).toArray 30 (0, 0)) ∧ (∃ z, w.heap[b4]? = some (.cells z 30 (0, 0)) ∧ z.size = 8) ∧ w.heap[b5]? = some (.cells ((sched bs 64).map W).toArray 100 (0, 0)) ∧ w.heap[b6]? = some (.cells (((rnds (sched bs 64) s t).lo).map W).toArray 154 (0, 0)) ∧ w.heap[b7]? = some (.cells (((rnds (sched bs 64) s t).hi).map W).toArray 154 (0, 0))) (64) ?_ fun n a w hI => ?_
    · exact ⟨0, rfl, by omega, hk.sub _ ⟨rfl, rfl, rfl, rfl, rfl, rfl, rfl, trivial⟩, hB, h2, ⟨_, h4, rfl⟩, h5, h6, h7⟩
    clear hB h2 h4 h5 h6 h7
    obtain ⟨t, rfl, ht, hk, hB, h2, ⟨z, h4, hz⟩, h5, h6, h7⟩ := hI
    refine wp_seq_k fun K6 hK6 => ?_
    refine wp_region_lit ?_
    refine ls hk rfl rfl rfl (e_lss hk rfl rfl rfl _) fun a hk => ?_
    refine lnil (hK6 _ _ ?_)
    refine wp_seq_k fun K7 hK7 => ?_
    refine cdB hk rfl (fun hb => ?_) (fun hb => ?_)
    · have ht1 : t < 64 := by have := of_decide_eq_true hb; omega
      generalize hr : rnds (sched bs 64) s t = r at h6 h7
      refine wp_skip (hK7 _ _ ?_)
      refine wp_seq_k fun K8 hK8 => ?_
      refine wp_block ?_
      refine wp_seq_k fun K9 hK9 => ?_
      refine wp_region_lit ?_
      refine ls hk rfl rfl rfl (e_move hk rfl _) fun a hk => ?_
      refine ls hk rfl rfl rfl (e_idxV hk rfl rfl Tryd.underlying100 Tryd.underlying29 rfl sz29 (by omega) (by omega) (map_get_w kc t _ (kc.getD t 0) (by omega) (by simp [show t < kc.length from ht1])) _) fun a hk => ?_
      refine ls hk rfl rfl rfl (e_assign hk rfl _) fun a hk => ?_
      refine ls hk rfl rfl rfl (e_assign hk rfl _) fun a hk => ?_
      refine lnil (hK9 _ _ ?_)
      refine wp_seq_k fun K10 hK10 => ?_
      refine wp_region_ok (fun w' => w'.heap[b7]? = some (.cells (r.hi.map W).toArray 154 (0, 0)) ∧ w'.heap[b5]? = some (.cells ((sched bs 64).map W).toArray 100 (0, 0))) [0, 3, 0, 3, 4, 0, 0, 3, 0, 3, 0, 0, 3, 0, 0, 3, 0, 0, 0, 0, 0, 0, 0, 3, 0, 0] mixed ?_
      have hS : w.drew.heap[b7]? = some (.cells (r.hi.map W).toArray 154 (0, 0)) ∧ w.drew.heap[b5]? = some (.cells ((sched bs 64).map W).toArray 100 (0, 0)) := ⟨h7, h5⟩
      have hB := hB.drew
      refine d0 0 hk rfl (by kernel_rfl) rfl rfl rfl rfl (fun _ => e_idxA1 3 hk rfl rfl Tryd.underlying154 sz29 rfl (by decide) _) fun a hk => ?_
      refine d3 1 hk rfl (by kernel_rfl) rfl rfl rfl rfl hS (fun w hS => r_load (v := W r.h) hk rfl Tryd.underlying29 rfl hS.1 rfl) fun a hk => ?_
      refine d0 2 hk rfl (by kernel_rfl) rfl rfl rfl rfl (fun _ => e_idxA1 0 hk rfl rfl Tryd.underlying154 sz29 rfl (by decide) _) fun a hk => ?_
      refine d3 3 hk rfl (by kernel_rfl) rfl rfl rfl rfl hS (fun w hS => r_load (v := W r.e) hk rfl Tryd.underlying29 rfl hS.1 rfl) fun a hk => ?_
      refine da4 4 hk rfl (by kernel_rfl) rfl rfl hS (a_call hk rfl rfl (c_fn hk rfl ok121) (c121 r.e 6 11 25 (by decide) (by decide) (by decide) _) ?_)
      rintro e w' ⟨rfl, rfl⟩
      refine ⟨_, rfl, fun a hk => ⟨hS, ?_⟩⟩
      refine d0 5 hk rfl (by kernel_rfl) rfl rfl rfl rfl (fun _ => e_add hk rfl rfl (w_add _ _) _) fun a hk => ?_
      refine d0 6 hk rfl (by kernel_rfl) rfl rfl rfl rfl (fun _ => e_idxA1 0 hk rfl rfl Tryd.underlying154 sz29 rfl (by decide) _) fun a hk => ?_
      refine d3 7 hk rfl (by kernel_rfl) rfl rfl rfl rfl hS (fun w hS => r_load (v := W r.e) hk rfl Tryd.underlying29 rfl hS.1 rfl) fun a hk => ?_
      refine d0 8 hk rfl (by kernel_rfl) rfl rfl rfl rfl (fun _ => e_idxA1 1 hk rfl rfl Tryd.underlying154 sz29 rfl (by decide) _) fun a hk => ?_
      refine d3 9 hk rfl (by kernel_rfl) rfl rfl rfl rfl hS (fun w hS => r_load (v := W r.f) hk rfl Tryd.underlying29 rfl hS.1 rfl) fun a hk => ?_
      refine d0 10 hk rfl (by kernel_rfl) rfl rfl rfl rfl (fun _ => e_and hk rfl rfl (w_and _ _) _) fun a hk => ?_
      refine d0 11 hk rfl (by kernel_rfl) rfl rfl rfl rfl (fun _ => e_idxA1 0 hk rfl rfl Tryd.underlying154 sz29 rfl (by decide) _) fun a hk => ?_
      refine d3 12 hk rfl (by kernel_rfl) rfl rfl rfl rfl hS (fun w hS => r_load (v := W r.e) hk rfl Tryd.underlying29 rfl hS.1 rfl) fun a hk => ?_
      refine d0 13 hk rfl (by kernel_rfl) rfl rfl rfl rfl (fun _ => e_cpl hk rfl rfl (w_cpl _) _) fun a hk => ?_
      refine d0 14 hk rfl (by kernel_rfl) rfl rfl rfl rfl (fun _ => e_idxA1 2 hk rfl rfl Tryd.underlying154 sz29 rfl (by decide) _) fun a hk => ?_
      refine d3 15 hk rfl (by kernel_rfl) rfl rfl rfl rfl hS (fun w hS => r_load (v := W r.g) hk rfl Tryd.underlying29 rfl hS.1 rfl) fun a hk => ?_
      refine d0 16 hk rfl (by kernel_rfl) rfl rfl rfl rfl (fun _ => e_and hk rfl rfl (w_and _ _) _) fun a hk => ?_
      refine d0 17 hk rfl (by kernel_rfl) rfl rfl rfl rfl (fun _ => e_xor hk rfl rfl (w_xor _ _) _) fun a hk => ?_
      refine d0 18 hk rfl (by kernel_rfl) rfl rfl rfl rfl (fun _ => e_add hk rfl rfl (w_add _ _) _) fun a hk => ?_
      refine d0 19 hk rfl (by kernel_rfl) rfl rfl rfl rfl (fun _ => e_move hk rfl _) fun a hk => ?_
      refine d0 20 hk rfl (by kernel_rfl) rfl rfl rfl rfl (fun _ => e_add hk rfl rfl (w_add _ _) _) fun a hk => ?_
      refine d0 21 hk rfl (by kernel_rfl) rfl rfl rfl rfl (fun _ => e_move hk rfl _) fun a hk => ?_
      refine d0 22 hk rfl (by kernel_rfl) rfl rfl rfl rfl (fun _ => e_idxA1 t hk rfl rfl Tryd.underlying100 sz29 rfl (by omega) _) fun a hk => ?_
      refine d3 23 hk rfl (by kernel_rfl) rfl rfl rfl rfl hS (fun w hS => r_load hk rfl Tryd.underlying29 rfl hS.2 (map_get_w _ t _ ((sched bs 64).getD t 0) (by omega) (by simp [length_sched, ht1]))) fun a hk => ?_
      refine d0 24 hk rfl (by kernel_rfl) rfl rfl rfl rfl (fun _ => e_add hk rfl rfl (w_add _ _) _) fun a hk => ?_
      refine d0 25 hk rfl (by kernel_rfl) rfl rfl rfl rfl (fun _ => e_assign hk rfl _) fun a hk => ?_
      have hk := hk.sub [(2, .pointer (some ⟨b2, 0, none⟩)), (4, .pointer (some ⟨b4, 0, none⟩)), (5, .pointer (some ⟨b5, 0, none⟩)), (6, .pointer (some ⟨b6, 0, none⟩)), (7, .pointer (some ⟨b7, 0, none⟩)), (21, .agg (kc.map W).toArray), (22, I t), (10, W (xOf (kc.getD t 0) ((sched bs 64).getD t 0) r))] ⟨rfl, rfl, rfl, rfl, rfl, rfl, rfl, rfl, trivial⟩
      refine okFin (by kernel_rfl) (hK10 _ _ ?_)
      refine wp_seq_k fun K11 hK11 => ?_
      refine wp_region_ok (fun w' => w'.heap[b6]? = some (.cells (r.lo.map W).toArray 154 (0, 0))) [0, 3, 4, 0, 3, 0, 3, 0, 0, 3, 0, 3, 0, 0, 0, 3, 0, 3, 0, 0, 0, 0] mixed ?_
      have hS : w.drew.drew.heap[b6]? = some (.cells (r.lo.map W).toArray 154 (0, 0)) := h6
      have hB := hB.drew
      refine d0 0 hk rfl (by kernel_rfl) rfl rfl rfl rfl (fun _ => e_idxA1 0 hk rfl rfl Tryd.underlying154 sz29 rfl (by decide) _) fun a hk => ?_
      refine d3 1 hk rfl (by kernel_rfl) rfl rfl rfl rfl hS (fun w hS => r_load (v := W r.a) hk rfl Tryd.underlying29 rfl hS rfl) fun a hk => ?_
      refine da4 2 hk rfl (by kernel_rfl) rfl rfl hS (a_call hk rfl rfl (c_fn hk rfl ok121) (c121 r.a 2 13 22 (by decide) (by decide) (by decide) _) ?_)
      rintro e w' ⟨rfl, rfl⟩
      refine ⟨_, rfl, fun a hk => ⟨hS, ?_⟩⟩
      refine d0 3 hk rfl (by kernel_rfl) rfl rfl rfl rfl (fun _ => e_idxA1 0 hk rfl rfl Tryd.underlying154 sz29 rfl (by decide) _) fun a hk => ?_
      refine d3 4 hk rfl (by kernel_rfl) rfl rfl rfl rfl hS (fun w hS => r_load (v := W r.a) hk rfl Tryd.underlying29 rfl hS rfl) fun a hk => ?_
      refine d0 5 hk rfl (by kernel_rfl) rfl rfl rfl rfl (fun _ => e_idxA1 1 hk rfl rfl Tryd.underlying154 sz29 rfl (by decide) _) fun a hk => ?_
      refine d3 6 hk rfl (by kernel_rfl) rfl rfl rfl rfl hS (fun w hS => r_load (v := W r.b) hk rfl Tryd.underlying29 rfl hS rfl) fun a hk => ?_
      refine d0 7 hk rfl (by kernel_rfl) rfl rfl rfl rfl (fun _ => e_and hk rfl rfl (w_and _ _) _) fun a hk => ?_
      refine d0 8 hk rfl (by kernel_rfl) rfl rfl rfl rfl (fun _ => e_idxA1 0 hk rfl rfl Tryd.underlying154 sz29 rfl (by decide) _) fun a hk => ?_
      refine d3 9 hk rfl (by kernel_rfl) rfl rfl rfl rfl hS (fun w hS => r_load (v := W r.a) hk rfl Tryd.underlying29 rfl hS rfl) fun a hk => ?_
      refine d0 10 hk rfl (by kernel_rfl) rfl rfl rfl rfl (fun _ => e_idxA1 2 hk rfl rfl Tryd.underlying154 sz29 rfl (by decide) _) fun a hk => ?_
      refine d3 11 hk rfl (by kernel_rfl) rfl rfl rfl rfl hS (fun w hS => r_load (v := W r.c) hk rfl Tryd.underlying29 rfl hS rfl) fun a hk => ?_
      refine d0 12 hk rfl (by kernel_rfl) rfl rfl rfl rfl (fun _ => e_and hk rfl rfl (w_and _ _) _) fun a hk => ?_
      refine d0 13 hk rfl (by kernel_rfl) rfl rfl rfl rfl (fun _ => e_xor hk rfl rfl (w_xor _ _) _) fun a hk => ?_
      refine d0 14 hk rfl (by kernel_rfl) rfl rfl rfl rfl (fun _ => e_idxA1 1 hk rfl rfl Tryd.underlying154 sz29 rfl (by decide) _) fun a hk => ?_
      refine d3 15 hk rfl (by kernel_rfl) rfl rfl rfl rfl hS (fun w hS => r_load (v := W r.b) hk rfl Tryd.underlying29 rfl hS rfl) fun a hk => ?_
      refine d0 16 hk rfl (by kernel_rfl) rfl rfl rfl rfl (fun _ => e_idxA1 2 hk rfl rfl Tryd.underlying154 sz29 rfl (by decide) _) fun a hk => ?_
      refine d3 17 hk rfl (by kernel_rfl) rfl rfl rfl rfl hS (fun w hS => r_load (v := W r.c) hk rfl Tryd.underlying29 rfl hS rfl) fun a hk => ?_
      refine d0 18 hk rfl (by kernel_rfl) rfl rfl rfl rfl (fun _ => e_and hk rfl rfl (w_and _ _) _) fun a hk => ?_
      refine d0 19 hk rfl (by kernel_rfl) rfl rfl rfl rfl (fun _ => e_xor hk rfl rfl (w_xor _ _) _) fun a hk => ?_
      refine d0 20 hk rfl (by kernel_rfl) rfl rfl rfl rfl (fun _ => e_add hk rfl rfl (w_add _ _) _) fun a hk => ?_
      refine d0 21 hk rfl (by kernel_rfl) rfl rfl rfl rfl (fun _ => e_assign hk rfl _) fun a hk => ?_
      have hk := hk.sub [(2, .pointer (some ⟨b2, 0, none⟩)), (4, .pointer (some ⟨b4, 0, none⟩)), (5, .pointer (some ⟨b5, 0, none⟩)), (6, .pointer (some ⟨b6, 0, none⟩)), (7, .pointer (some ⟨b7, 0, none⟩)), (21, .agg (kc.map W).toArray), (22, I t), (10, W (xOf (kc.getD t 0) ((sched bs 64).getD t 0) r)), (11, W (yOf' r))] ⟨rfl, rfl, rfl, rfl, rfl, rfl, rfl, rfl, rfl, trivial⟩
      refine okFin (by kernel_rfl) (hK11 _ _ ?_)
      refine wp_seq_k fun K12 hK12 => ?_
      refine wp_region_lit ?_
      refine ls hk rfl rfl rfl (e_idxA1 3 hk rfl rfl Tryd.underlying154 sz29 rfl (by decide) _) fun a hk => ?_
      refine ls hk rfl rfl rfl (r_load (v := W r.d) hk rfl Tryd.underlying29 rfl h6 rfl) fun a hk => ?_
      refine ls hk rfl rfl rfl (e_move hk rfl _) fun a hk => ?_
      refine ls hk rfl rfl rfl (e_add hk rfl rfl (w_add _ _) _) fun a hk => ?_
      refine ls hk rfl rfl rfl (e_idxA1 0 hk rfl rfl Tryd.underlying154 sz29 rfl (by decide) _) fun a hk => ?_
      refine ls hk rfl rfl rfl (r_load (v := W r.e) hk rfl Tryd.underlying29 rfl h7 rfl) fun a hk => ?_
      refine ls hk rfl rfl rfl (e_idxA1 1 hk rfl rfl Tryd.underlying154 sz29 rfl (by decide) _) fun a hk => ?_
      refine ls hk rfl rfl rfl (r_load (v := W r.f) hk rfl Tryd.underlying29 rfl h7 rfl) fun a hk => ?_
      refine ls hk rfl rfl rfl (e_idxA1 2 hk rfl rfl Tryd.underlying154 sz29 rfl (by decide) _) fun a hk => ?_
      refine ls hk rfl rfl rfl (r_load (v := W r.g) hk rfl Tryd.underlying29 rfl h7 rfl) fun a hk => ?_
      refine ls hk rfl rfl rfl (e_buildA (cells := #[W (r.d + xOf (kc.getD t 0) ((sched bs 64).getD t 0) r), W r.e, W r.f, W r.g]) hk rfl zr154 Tryd.underlying154 sz29 rfl _) fun a hk => ?_
      refine la hk rfl (a_storeB hk rfl rfl (words_one [r.d + xOf (kc.getD t 0) ((sched bs 64).getD t 0) r, r.e, r.f, r.g]) sz154 h7 (by simp [S8.hi]) fun a w hk W8 => ?_)
      have hB := W8.below hB hg7
      have h2 := W8.keep n27 h2
      have h4 := W8.keep n47 h4
      have h5 := W8.keep n57 h5
      have h6 := W8.keep n67 h6
      have h7 : w.heap[b7]? = some (.cells ((rnd (kc.getD t 0) ((sched bs 64).getD t 0) r).hi.map W).toArray 154 (0, 0)) := W8.at_
      clear W8
      refine lnil (hK12 _ _ ?_)
      refine wp_region_lit ?_
      refine ls hk rfl rfl rfl (e_move hk rfl _) fun a hk => ?_
      refine ls hk rfl rfl rfl (e_move hk rfl _) fun a hk => ?_
      refine ls hk rfl rfl rfl (e_add hk rfl rfl (w_add _ _) _) fun a hk => ?_
      refine ls hk rfl rfl rfl (e_idxA1 0 hk rfl rfl Tryd.underlying154 sz29 rfl (by decide) _) fun a hk => ?_
      refine ls hk rfl rfl rfl (r_load (v := W r.a) hk rfl Tryd.underlying29 rfl h6 rfl) fun a hk => ?_
      refine ls hk rfl rfl rfl (e_idxA1 1 hk rfl rfl Tryd.underlying154 sz29 rfl (by decide) _) fun a hk => ?_
      refine ls hk rfl rfl rfl (r_load (v := W r.b) hk rfl Tryd.underlying29 rfl h6 rfl) fun a hk => ?_
      refine ls hk rfl rfl rfl (e_idxA1 2 hk rfl rfl Tryd.underlying154 sz29 rfl (by decide) _) fun a hk => ?_
      refine ls hk rfl rfl rfl (r_load (v := W r.c) hk rfl Tryd.underlying29 rfl h6 rfl) fun a hk => ?_
      refine ls hk rfl rfl rfl (e_buildA (cells := #[W (xOf (kc.getD t 0) ((sched bs 64).getD t 0) r + yOf' r), W r.a, W r.b, W r.c]) hk rfl zr154 Tryd.underlying154 sz29 rfl _) fun a hk => ?_
      refine la hk rfl (a_storeB hk rfl rfl (words_one [xOf (kc.getD t 0) ((sched bs 64).getD t 0) r + yOf' r, r.a, r.b, r.c]) sz154 h6 (by simp [S8.lo]) fun a w hk W9 => ?_)
      have hB := W9.below hB hg6
      have h2 := W9.keep n26 h2
      have h4 := W9.keep n46 h4
      have h5 := W9.keep n56 h5
      have h7 := W9.keep (Ne.symm n67) h7
      have h6 : w.heap[b6]? = some (.cells ((rnd (kc.getD t 0) ((sched bs 64).getD t 0) r).lo.map W).toArray 154 (0, 0)) := W9.at_
      rw [← hr] at h6 h7
      clear W9
      refine lnil (hK8 _ _ ?_)
      refine wp_region_lit ?_
      refine ls hk rfl rfl rfl (e_add hk rfl rfl (i64 (by omega) (by omega)) _) fun a hk => ?_
      refine ls hk rfl rfl rfl (e_move hk rfl _) fun a hk => ?_
      refine lnil (show ∃ m : Nat, m < _ ∧ _ from ⟨64 - (t + 1), by omega, t + 1, rfl, by omega, hk.sub _ ⟨rfl, rfl, rfl, rfl, rfl, rfl, rfl, trivial⟩, hB, h2, ⟨_, h4, hz⟩, h5, h6, h7⟩)
    · have ht1 : t = 64 := by have := of_decide_eq_false hb; omega
      subst ht1
      generalize hr : rnds (sched bs 64) s 64 = r at h6 h7
      refine wp_exit (hK4 _ _ ?_)
      refine wp_seq_k fun K13 hK13 => ?_
      refine wp_seq_k fun K14 hK14 => ?_
      refine wp_region_lit ?_
      refine ls hk rfl rfl rfl (e_move hk rfl _) fun a hk => ?_
      refine lnil (hK14 _ _ ?_)
      refine wp_block ?_
      refine loopN (fun n a w => ∃ i : Nat, n = 4 - i ∧ i ≤ 4 ∧ Kn a 116 [(2, .pointer (some ⟨b2, 0, none⟩)), (4, .pointer (some ⟨b4, 0, none⟩)), (6, .pointer (some ⟨b6, 0, none⟩)), (7, .pointer (some ⟨b7, 0, none⟩)), (94, I i)] ∧ Below w0.heap.size w0 w ∧ w.heap[b2]? = some (.cells ((mid s r i).map W).toArray 30 (0, 0)) ∧ (∃ z, w.heap[b4]? = some (.cells z 30 (0, 0)) ∧ z.size = 8) ∧ w.heap[b6]? = some (.cells ((r.lo).map W).toArray 154 (0, 0)) ∧ w.heap[b7]? = some (.cells ((r.hi).map W).toArray 154 (0, 0))) (4) ?_ fun n a w hI => ?_
      · exact ⟨0, rfl, by omega, hk.sub _ ⟨rfl, rfl, rfl, rfl, rfl, trivial⟩, hB, h2, ⟨_, h4, hz⟩, h6, h7⟩
      clear hB h2 h4 h5 h6 h7 hz
      obtain ⟨i, rfl, hi, hk, hB, h2, ⟨z, h4, hz⟩, h6, h7⟩ := hI
      refine wp_seq_k fun K15 hK15 => ?_
      refine wp_region_lit ?_
      refine ls hk rfl rfl rfl (e_lss hk rfl rfl rfl _) fun a hk => ?_
      refine lnil (hK15 _ _ ?_)
      refine wp_seq_k fun K16 hK16 => ?_
      refine cdB hk rfl (fun hb => ?_) (fun hb => ?_)
      · have hi4 : i < 4 := by have := of_decide_eq_true hb; omega
        refine wp_skip (hK16 _ _ ?_)
        refine wp_seq_k fun K17 hK17 => ?_
        refine wp_block ?_
        refine wp_seq_k fun K18 hK18 => ?_
        refine wp_region_lit ?_
        refine ls hk rfl rfl rfl (e_move hk rfl _) fun a hk => ?_
        refine ls hk rfl rfl rfl (e_assign hk rfl _) fun a hk => ?_
        refine lnil (hK18 _ _ ?_)
        refine wp_seq_k fun K19 hK19 => ?_
        refine wp_region_ok (fun _ => True) [0, 0, 1, 0, 0, 1, 0, 0, 2] mixed ?_
        have hB := hB.drew
        refine d0 0 hk rfl (by kernel_rfl) rfl rfl rfl rfl (fun _ => e_move hk rfl _) fun a hk => ?_
        refine d0 1 hk rfl (by kernel_rfl) rfl rfl rfl rfl (fun _ => e_idxA1 i hk rfl rfl Tryd.underlying30 sz29 rfl (by omega) _) fun a hk => ?_
        refine d1 2 hk rfl (by kernel_rfl) rfl rfl rfl rfl (r_load hk rfl Tryd.underlying29 rfl h2 (map_get_w _ i _ _ (by omega) (mid_at s r i hi4))) fun a hk => ?_
        refine d0 3 hk rfl (by kernel_rfl) rfl rfl rfl rfl (fun _ => e_move hk rfl _) fun a hk => ?_
        refine d0 4 hk rfl (by kernel_rfl) rfl rfl rfl rfl (fun _ => e_idxA1 i hk rfl rfl Tryd.underlying154 sz29 rfl (by omega) _) fun a hk => ?_
        refine d1 5 hk rfl (by kernel_rfl) rfl rfl rfl rfl (r_load hk rfl Tryd.underlying29 rfl h6 (map_get_w _ i _ (r.list.getD i 0) (by omega) (four (fun i => r.lo[i]? = some (r.list.getD i 0)) rfl rfl rfl rfl i hi4))) fun a hk => ?_
        refine d0 6 hk rfl (by kernel_rfl) rfl rfl rfl rfl (fun _ => e_add hk rfl rfl (w_add _ _) _) fun a hk => ?_
        refine d0 7 hk rfl (by kernel_rfl) rfl rfl rfl rfl (fun _ => e_idxA1 i hk rfl rfl Tryd.underlying30 sz29 rfl (by omega) _) fun a hk => ?_
        refine da 8 hk rfl (by kernel_rfl) rfl rfl (a_store hk rfl rfl rfl sz29 h2 (by simp [length_mid]; omega) fun a w hk W14 => ?_)
        have hB := W14.below hB hg2
        have h4 := W14.keep (Ne.symm n24) h4
        have h6 := W14.keep (Ne.symm n26) h6
        have h7 := W14.keep (Ne.symm n27) h7
        have h2 := W14.at_
        rw [map_set_w _ i _ _ (by omega)] at h2
        clear W14
        refine okFin (by kernel_rfl) (hK19 _ _ ?_)
        refine wp_region_ok (fun _ => True) [0, 0, 0, 1, 0, 0, 1, 0, 0, 2] mixed ?_
        have hB := hB.drew
        refine d0 0 hk rfl (by kernel_rfl) rfl rfl rfl rfl (fun _ => e_move hk rfl _) fun a hk => ?_
        refine d0 1 hk rfl (by kernel_rfl) rfl rfl rfl rfl (fun _ => e_add hk rfl rfl (i64 (by omega) (by omega)) _) fun a hk => ?_
        refine d0 2 hk rfl (by kernel_rfl) rfl rfl rfl rfl (fun _ => e_idxA1 (i + 4) hk rfl rfl Tryd.underlying30 sz29 (by omega) (by omega) _) fun a hk => ?_
        refine d1 3 hk rfl (by kernel_rfl) rfl rfl rfl rfl (r_load hk rfl Tryd.underlying29 rfl h2 (map_get_w _ (i + 4) _ _ (by omega) (mid_at4 s r i hi4 _))) fun a hk => ?_
        refine d0 4 hk rfl (by kernel_rfl) rfl rfl rfl rfl (fun _ => e_move hk rfl _) fun a hk => ?_
        refine d0 5 hk rfl (by kernel_rfl) rfl rfl rfl rfl (fun _ => e_idxA1 i hk rfl rfl Tryd.underlying154 sz29 rfl (by omega) _) fun a hk => ?_
        refine d1 6 hk rfl (by kernel_rfl) rfl rfl rfl rfl (r_load hk rfl Tryd.underlying29 rfl h7 (map_get_w _ i _ (r.list.getD (i + 4) 0) (by omega) (four (fun i => r.hi[i]? = some (r.list.getD (i + 4) 0)) rfl rfl rfl rfl i hi4))) fun a hk => ?_
        refine d0 7 hk rfl (by kernel_rfl) rfl rfl rfl rfl (fun _ => e_add hk rfl rfl (w_add _ _) _) fun a hk => ?_
        refine d0 8 hk rfl (by kernel_rfl) rfl rfl rfl rfl (fun _ => e_idxA1 (i + 4) hk rfl rfl Tryd.underlying30 sz29 (by omega) (by omega) _) fun a hk => ?_
        refine da 9 hk rfl (by kernel_rfl) rfl rfl (a_store hk rfl rfl rfl sz29 h2 (by simp [length_mid]; omega) fun a w hk W15 => ?_)
        have hB := W15.below hB hg2
        have h4 := W15.keep (Ne.symm n24) h4
        have h6 := W15.keep (Ne.symm n26) h6
        have h7 := W15.keep (Ne.symm n27) h7
        have h2 := W15.at_
        rw [map_set_w _ (i + 4) _ _ (by omega), mid_step s r i hi4] at h2
        clear W15
        refine okFin (by kernel_rfl) (hK17 _ _ ?_)
        refine wp_region_lit ?_
        refine ls hk rfl rfl rfl (e_add hk rfl rfl (i64 (by omega) (by omega)) _) fun a hk => ?_
        refine ls hk rfl rfl rfl (e_move hk rfl _) fun a hk => ?_
        refine lnil (show ∃ m : Nat, m < _ ∧ _ from ⟨4 - (i + 1), by omega, i + 1, rfl, by omega, hk.sub _ ⟨rfl, rfl, rfl, rfl, rfl, trivial⟩, hB, h2, ⟨_, h4, hz⟩, h6, h7⟩)
      · have hi4 : i = 4 := by have := of_decide_eq_false hb; omega
        subst hi4
        rw [mid4] at h2
        refine wp_exit (hK13 _ _ ?_)
        refine wp_seq_k fun K20 hK20 => ?_
        refine wp_region_lit ?_
        refine ls hk rfl rfl rfl (r_loadB hk rfl h2 Tryd.underlying30 rfl sz30) fun a hk => ?_
        refine la hk rfl (a_storeB hk rfl rfl (words_one _) sz30 h4 (by rw [hz]; rfl) fun a w hk W17 => ?_)
        refine lnil (hK20 _ _ ?_)
        refine wp_ret ?_
        refine retA hk rfl rfl W17.at_ Tryd.underlying30 rfl sz30 ⟨?_, W17.below hB hg4⟩
        rw [← hr]
        rfl
  refine wp_region_ok (fun w' => w'.heap[b2]? = some (.cells (s.list.map W).toArray 30 (0, 0))) [0, 0, 3, 0, 0, 3, 4, 4, 4, 4] mixed ?_
  have hS : w.drew.heap[b2]? = some (.cells (s.list.map W).toArray 30 (0, 0)) := h2
  change w.drew.heap[b2]? = _ at h2
  change w.drew.heap[b4]? = _ at h4
  change w.drew.heap[b5]? = _ at h5
  refine d0 0 hk rfl (by kernel_rfl) rfl rfl rfl rfl (fun _ => e_slAtoN 4 hk rfl rfl Tryd.underlying30 sz29 rfl (by decide) _) fun a hk => ?_
  refine d0 1 hk rfl (by kernel_rfl) rfl rfl rfl rfl (fun _ => e_s2a hk rfl Tryd.underlying154 (by decide) _) fun a hk => ?_
  refine d3 2 hk rfl (by kernel_rfl) rfl rfl rfl rfl hS (fun w hS => r_loadR (xs := s.lo.map W) hk rfl (range_block hS (four _ rfl rfl rfl rfl)) Tryd.underlying154 rfl sz154) fun a hk => ?_
  refine d0 3 hk rfl (by kernel_rfl) rfl rfl rfl rfl (fun _ => e_slAfromN 4 hk rfl rfl Tryd.underlying30 sz29 rfl (by decide) _) fun a hk => ?_
  refine d0 4 hk rfl (by kernel_rfl) rfl rfl rfl rfl (fun _ => e_s2a hk rfl Tryd.underlying154 (by decide) _) fun a hk => ?_
  refine d3 5 hk rfl (by kernel_rfl) rfl rfl rfl rfl hS (fun w hS => r_loadR (xs := s.hi.map W) hk rfl (range_block hS (four _ rfl rfl rfl rfl)) Tryd.underlying154 rfl sz154) fun a hk => ?_
  refine branch2 6 7 rfl rfl (by kernel_rfl) (by kernel_rfl) ?_ ?_
  · refine wa4 (i := 6) hk rfl rfl hS (a_alloc hk rfl zr154 fun a w b6 hk G6 => ⟨ext_at G6.ext hS, ?_⟩)
    have hS := ext_at G6.ext hS
    refine da4 7 hk rfl (by kernel_rfl) rfl rfl hS (a_alloc hk rfl zr154 fun a w b7 hk G7 => ⟨ext_at G7.ext hS, ?_⟩)
    have hS := ext_at G7.ext hS
    have hB := (hB.drew.trans (G6.ext.mono (by simpa using hB.size))).trans (G7.ext.mono (Nat.le_trans (by simpa using hB.size) G6.ext.size))
    have h6 := ext_at G7.ext G6.at_
    have h7 := G7.at_
    have hn67 : b6 ≠ b7 := G7.ne G6.at_
    have l5 := heap_lt h5
    have hb5 := ext_at G7.ext (ext_at G6.ext h5)
    have hb4 := ext_at G7.ext (ext_at G6.ext h4)
    have n26 : b2 ≠ b6 := G6.ne h2
    have n27 : b2 ≠ b7 := G7.ne (ext_at G6.ext h2)
    have n56 : b5 ≠ b6 := G6.ne h5
    have n57 : b5 ≠ b7 := G7.ne (ext_at G6.ext h5)
    have n46 : b4 ≠ b6 := G6.ne h4
    have n47 : b4 ≠ b7 := G7.ne (ext_at G6.ext h4)
    have hg6 : w0.heap.size ≤ b6 := Nat.le_trans hsz (Nat.le_trans (Nat.le_refl _) G6.ge)
    have hg7 : w0.heap.size ≤ b7 := Nat.le_trans hsz (Nat.le_trans G6.ext.size G7.ge)
    clear G6 G7
    refine da4 8 hk rfl (by kernel_rfl) rfl rfl hS (a_storeB hk rfl rfl (words_one s.lo) sz154 h6 rfl fun a w hk W8 => ⟨W8.keep n26 hS, ?_⟩)
    have hS := W8.keep n26 hS
    refine da4 9 hk rfl (by kernel_rfl) rfl rfl hS (a_storeB hk rfl rfl (words_one s.hi) sz154 (W8.keep (Ne.symm hn67) h7) rfl fun a w hk W9 => ⟨W9.keep n27 hS, ?_⟩)
    have hS := W9.keep n27 hS
    refine okFin (by kernel_rfl) (hJ3 _ _ b6 b7 ?_)
    exact ⟨hk.sub _ ⟨rfl, rfl, rfl, rfl, rfl, trivial⟩, W9.below (W8.below hB hg6) hg7, hS, W9.keep n47 (W8.keep n46 hb4), W9.keep n57 (W8.keep n56 hb5), W9.keep hn67 W8.at_, W9.at_, n26, n27, n46, n47, n56, n57, hn67, hg6, hg7⟩
  · refine wa4 (i := 7) hk rfl rfl hS (a_alloc hk rfl zr154 fun a w b7 hk G7 => ⟨ext_at G7.ext hS, ?_⟩)
    have hS := ext_at G7.ext hS
    refine da4 6 hk rfl (by kernel_rfl) rfl rfl hS (a_alloc hk rfl zr154 fun a w b6 hk G6 => ⟨ext_at G6.ext hS, ?_⟩)
    have hS := ext_at G6.ext hS
    have hB := (hB.drew.trans (G7.ext.mono (by simpa using hB.size))).trans (G6.ext.mono (Nat.le_trans (by simpa using hB.size) G7.ext.size))
    have h7 := ext_at G6.ext G7.at_
    have h6 := G6.at_
    have hn67 : b6 ≠ b7 := Ne.symm (G6.ne G7.at_)
    have l5 := heap_lt h5
    have hb5 := ext_at G6.ext (ext_at G7.ext h5)
    have hb4 := ext_at G6.ext (ext_at G7.ext h4)
    have n26 : b2 ≠ b6 := G6.ne (ext_at G7.ext h2)
    have n27 : b2 ≠ b7 := G7.ne h2
    have n56 : b5 ≠ b6 := G6.ne (ext_at G7.ext h5)
    have n57 : b5 ≠ b7 := G7.ne h5
    have n46 : b4 ≠ b6 := G6.ne (ext_at G7.ext h4)
    have n47 : b4 ≠ b7 := G7.ne h4
    have hg6 : w0.heap.size ≤ b6 := Nat.le_trans hsz (Nat.le_trans G7.ext.size G6.ge)
    have hg7 : w0.heap.size ≤ b7 := Nat.le_trans hsz (Nat.le_trans (Nat.le_refl _) G7.ge)
    clear G6 G7
    refine da4 8 hk rfl (by kernel_rfl) rfl rfl hS (a_storeB hk rfl rfl (words_one s.lo) sz154 h6 rfl fun a w hk W8 => ⟨W8.keep n26 hS, ?_⟩)
    have hS := W8.keep n26 hS
    refine da4 9 hk rfl (by kernel_rfl) rfl rfl hS (a_storeB hk rfl rfl (words_one s.hi) sz154 (W8.keep (Ne.symm hn67) h7) rfl fun a w hk W9 => ⟨W9.keep n27 hS, ?_⟩)
    have hS := W9.keep n27 hS
    refine okFin (by kernel_rfl) (hJ3 _ _ b6 b7 ?_)
    exact ⟨hk.sub _ ⟨rfl, rfl, rfl, rfl, rfl, trivial⟩, W9.below (W8.below hB hg6) hg7, hS, W9.keep n47 (W8.keep n46 hb4), W9.keep n57 (W8.keep n56 hb5), W9.keep hn67 W8.at_, W9.at_, n26, n27, n46, n47, n56, n57, hn67, hg6, hg7⟩

end Go.Proofs.YtidfbboalbchiaaDoor
