/- The walk of the specification's Sum: the hash of a message. -/
import Derived.Test.YtidfbboalbchiaaDoorA14
namespace Go.Proofs.YtidfbboalbchiaaDoor
open Go Go.RowKit

theorem fill_cons (cs : Array Value) (i : Nat) (v : Value) (r : List (Nat × Value)) (hv : v.cells = #[v]) (hi : i < cs.size) : Instr.fill (fun i => some (i * 1, 1)) cs ((i, v) :: r) = Instr.fill (fun i => some (i * 1, 1)) (cs.setIfInBounds i v) r := by
  simp [Instr.fill, hv]
  omega
theorem fill8 (v0 v1 v2 v3 v4 v5 v6 v7 : Value) (h0 : v0.cells = #[v0]) (h1 : v1.cells = #[v1]) (h2 : v2.cells = #[v2]) (h3 : v3.cells = #[v3]) (h4 : v4.cells = #[v4]) (h5 : v5.cells = #[v5]) (h6 : v6.cells = #[v6]) (h7 : v7.cells = #[v7]) : Instr.fill (fun i => some (i * 1, 1)) (Value.agg (List.replicate 8 (Value.int .u32 0)).toArray).cells [(0, v0), (1, v1), (2, v2), (3, v3), (4, v4), (5, v5), (6, v6), (7, v7)] = some #[v0, v1, v2, v3, v4, v5, v6, v7] := by
  show Instr.fill (fun i => some (i * 1, 1)) (List.replicate 8 (Value.int .u32 0)).toArray _ = _
  rw [fill_cons _ 0 _ _ h0 (by simp), fill_cons _ 1 _ _ h1 (by simp), fill_cons _ 2 _ _ h2 (by simp), fill_cons _ 3 _ _ h3 (by simp), fill_cons _ 4 _ _ h4 (by simp), fill_cons _ 5 _ _ h5 (by simp), fill_cons _ 6 _ _ h6 (by simp), fill_cons _ 7 _ _ h7 (by simp)]
  simp [Instr.fill, List.replicate]
theorem not_eq (x : UInt32) : x ^^^ 4294967295 = ~~~x := by
  apply UInt32.toBitVec_inj.1
  show x.toBitVec ^^^ BitVec.allOnes 32 = ~~~x.toBitVec
  rw [BitVec.xor_allOnes]
theorem list_at (s : S8) (i : Nat) (h : i < 8) : (s.list.map W).toArray[0 + i]? = some (W (s.list.getD i 0)) := by
  have h8 : i < s.list.length := h
  simp [h8]
theorem hst_len (m : List UInt8) : 64 * ((m ++ padding m.length).length / 64) = (m ++ padding m.length).length := by
  rw [List.length_append, length_padding]; unfold zeros; omega

/-- A part of a row. -/
theorem sub_rd {w : World} {ad : Option Addr} {n c : Nat} {bs : List UInt8} (h : Rd w ad n c 1 (bs.map B)) (o k : Nat) (hk : o + k ≤ n) (h0 : 0 < k) : ∃ bp op, ad = some ⟨bp, op, none⟩ ∧ Rd w (some ⟨bp, op + o * 1, none⟩) k (c - o) 1 (((bs.drop o).take k).map B) := by
  have hn : bs.length = n := by have := h.1; simpa using this
  obtain ⟨bp, op, e, _⟩ := h.2.2 0 (B (bs.getD 0 0)) (by simp [show 0 < bs.length by omega])
  refine ⟨bp, op, e, by simp; omega, by have := h.2.1; omega, fun i u hu => ⟨bp, _, rfl, ?_⟩⟩
  have hi : i < k := by
    have := (List.getElem?_eq_some_iff.1 hu).1
    simp at this; omega
  rw [List.getElem?_map, List.getElem?_take, if_pos hi, List.getElem?_drop, ← List.getElem?_map] at hu
  obtain ⟨b', o', e', hc⟩ := h.2.2 (o + i) u hu
  rw [e] at e'
  cases e'
  rw [show op + o * 1 + i = op + (o + i) by omega]; exact hc
theorem rd_wrote {w w' : World} {ad : Option Addr} {n c sz : Nat} {xs : List Value} {b : Nat} {o : Obj} (h : Rd w ad n c sz xs) (hW : Wrote w w' b o) (hne : ∀ bp op, ad = some ⟨bp, op, none⟩ → bp ≠ b) : Rd w' ad n c sz xs :=
  ⟨h.1, h.2.1, fun i u hu => by obtain ⟨b', o', e, hc⟩ := h.2.2 i u hu; exact ⟨b', o', e, hW.cell (hne _ _ e) hc⟩⟩
theorem rd_fresh {w w' : World} {bp op n c : Nat} {xs : List Value} {b : Nat} {o : Obj} (h : Rd w (some ⟨bp, op, none⟩) n c 1 xs) (hx : 0 < xs.length) (G : Grew w w' b o) : bp ≠ b := by
  obtain ⟨b', o', e, hc⟩ := h.2.2 0 (xs[0]'hx) (by simp)
  cases e
  have h1 := World.block_lt_of_cell? w _ hc
  have h2 := G.ge
  have h3 : bp < w.heap.size := h1
  omega
theorem kc_at {w : World} (h : GR w) (t : Nat) (ht : t < 64) : w.cell? ⟨0, 0 + t, none⟩ = some (W (kc.getD t 0)) := by
  have hk : t < kc.length := ht
  exact h t _ (by simp [hk])

set_option maxRecDepth 4000 in
set_option maxHeartbeats 1000000 in
theorem c24 (m : List UInt8) (ad0 : Option Addr) (c0 : Nat) (w0 : World) (hR : Rd w0 ad0 m.length c0 1 (m.map B)) (hGR : GR w0) (hl : m.length ≤ 1000000000) :
    Calls Tryd.prog 24 #[.slice ad0 m.length c0] w0 fun e w' => e = .returned (.agg ((sha m).map B).toArray) ∧ Ext w0 w' := by
  refine start 164 Tryd.func24 rfl rfl rfl fun a hk => ?_
  refine wp_seq_k fun K1 hK1 => ?_
  refine wp_region_lit ?_
  refine la hk rfl (a_alloc hk rfl zr24 fun a w b2 hk G2 => ?_)
  refine lnil (hK1 _ _ ?_)
  refine wp_seq_k fun K2 hK2 => ?_
  have hB : Below w0.heap.size w0 w := G2.ext
  have h2 : ∃ z, w.heap[b2]? = some (.cells z 24 (0, 0)) ∧ z.size = 32 := ⟨_, G2.at_, rfl⟩
  have hg2 := G2.ge
  clear G2
  obtain ⟨z2, h2, hz2⟩ := h2
  refine wp_region_lit ?_
  refine ls hk rfl rfl rfl (e_buildA (cells := (s8init.list.map W).toArray) hk rfl zr30 Tryd.underlying30 sz29 (by kernel_rfl) _) fun a hk => ?_
  refine la hk rfl (a_alloc hk rfl zr30 fun a w b3 hk G3 => ?_)
  refine la hk rfl (a_storeB hk rfl rfl (words_one _) sz30 G3.at_ rfl fun a w hk W1 => ?_)
  have hne : b2 ≠ b3 := G3.ne h2
  have h2 := W1.keep hne (ext_at G3.ext h2)
  have hg3 : w0.heap.size ≤ b3 := Nat.le_trans hB.size G3.ge
  have hB := W1.below (ext_trans hB G3.ext) hg3
  have h3 : w.heap[b3]? = some (.cells (s8init.list.map W).toArray 30 (0, 0)) := W1.at_
  clear W1 G3
  refine lnil (hK2 _ _ ?_)
  refine wp_seq_k fun K3 hK3 => ?_
  refine wp_region_lit ?_
  refine ls hk rfl rfl rfl (e_move hk rfl _) fun a hk => ?_
  have hlt3 := heap_lt h3
  refine la hk rfl (a_call hk rfl rfl (c_fn hk rfl ok67) (c67 m ad0 c0 _ (hR.ext hB) hl) ?_)
  rintro e w ⟨adp, cp, rfl, hown, hE⟩
  refine ⟨_, rfl, fun a hk => ?_⟩
  have h2 := ext_at hE h2
  have h3 := ext_at hE h3
  have hB := ext_trans hB hE
  clear hE
  have hnp : ∀ bp op, adp = some ⟨bp, op, none⟩ → bp ≠ b3 := by
    intro bp op e
    subst e
    have := (hown.lt bp rfl).1
    omega
  obtain ⟨_, _, hv, hcp, hRp⟩ := Rd.of_own hown
  cases hv
  have hml := hst_len m
  have hlm : (m ++ padding m.length).length = m.length + 9 + zeros m.length := by rw [List.length_append, length_padding]; omega
  have hz64 : zeros m.length < 64 := Nat.mod_lt _ (by decide)
  generalize hmm : m ++ padding m.length = mm at hk hown hRp hcp hml hlm
  clear hown
  refine ls hk rfl rfl rfl (e_assign hk rfl _) fun a hk => ?_
  refine lnil (hK3 _ _ ?_)
  refine wp_seq_k fun K4 hK4 => ?_
  refine wp_seq_k fun K5 hK5 => ?_
  refine wp_region_lit ?_
  refine ls hk rfl rfl rfl (e_assign hk rfl _) fun a hk => ?_
  refine lnil (hK5 _ _ ?_)
  refine wp_block ?_
  refine loopN (fun n a w => ∃ k : Nat, n = mm.length - 64 * k ∧ 64 * k ≤ mm.length ∧ Kn a 164 [(2, .pointer (some ⟨b2, 0, none⟩)), (3, .pointer (some ⟨b3, 0, none⟩)), (4, .slice adp mm.length cp), (5, I (64 * k : Nat))] ∧ Below w0.heap.size w0 w ∧ (∃ z, w.heap[b2]? = some (.cells z 24 (0, 0)) ∧ z.size = 32) ∧ w.heap[b3]? = some (.cells ((hst k s8init mm).list.map W).toArray 30 (0, 0)) ∧ Rd w adp mm.length cp 1 (mm.map B)) (mm.length) ?_ fun n a w hI => ?_
  · exact ⟨0, rfl, Nat.zero_le _, hk.sub _ ⟨rfl, rfl, rfl, rfl, trivial⟩, hB, ⟨_, h2, hz2⟩, h3, hRp⟩
  clear hB h2 h3 hRp hz2
  obtain ⟨k, rfl, hk64, hk, hB, ⟨z2, h2, hz2⟩, h3, hRp⟩ := hI
  refine wp_seq_k fun K6 hK6 => ?_
  refine wp_seq_k fun K7 hK7 => ?_
  refine wp_region_lit ?_
  refine ls hk rfl rfl rfl (e_move hk rfl _) fun a hk => ?_
  refine ls hk rfl rfl rfl (e_move hk rfl _) fun a hk => ?_
  refine ls hk rfl rfl rfl (e_lenS hk rfl Tryd.underlying22 _) fun a hk => ?_
  refine ls hk rfl rfl rfl (e_lss hk rfl rfl rfl _) fun a hk => ?_
  refine lnil (hK7 _ _ ?_)
  refine cdB hk rfl (fun hb => ?_) (fun hb => ?_)
  · have hlt : 64 * k < mm.length := by have := of_decide_eq_true hb; omega
    have hlt2 : 64 * k + 64 ≤ mm.length := by omega
    obtain ⟨blk, hblk⟩ : ∃ blk, blk = (mm.drop (64 * k)).take 64 := ⟨_, rfl⟩
    have hbl : blk.length = 64 := by rw [hblk]; simp; omega
    obtain ⟨bp, op, rfl, hRb⟩ := sub_rd hRp (64 * k) 64 hlt2 (by decide)
    rw [← hblk] at hRb
    refine wp_skip (hK6 _ _ ?_)
    refine wp_seq_k fun K8 hK8 => ?_
    refine wp_block ?_
    refine wp_seq_k fun K9 hK9 => ?_
    refine wp_region_lit ?_
    refine ls hk rfl rfl rfl (e_move hk rfl _) fun a hk => ?_
    refine ls hk rfl rfl rfl (e_move hk rfl _) fun a hk => ?_
    refine ls hk rfl rfl rfl (e_move hk rfl _) fun a hk => ?_
    refine ls hk rfl rfl rfl (e_add (q := ((64 * k + 64 : Nat) : Int)) hk rfl rfl (by rw [i64 (by omega) (by omega)]; omega) _) fun a hk => ?_
    refine ls hk rfl rfl rfl (e_slSn (64 * k) 64 hk rfl rfl rfl Tryd.underlying22 sz5 (by omega) (by omega) (by have := hRp.2.1; omega) (by have := hRp.2.1; omega) _) fun a hk => ?_
    refine la hk rfl (a_call hk rfl rfl (c_fn hk rfl ok68) (c68 blk bp _ _ _ hbl (by simpa using hRb)) ?_)
    rintro e w ⟨rfl, hE⟩
    refine ⟨_, rfl, fun a hk => ?_⟩
    have h2 := ext_at hE h2
    have h3 := ext_at hE h3
    have hRp := hRp.ext hE
    have hB := ext_trans hB hE
    clear hE hRb
    refine la hk rfl (a_alloc hk rfl zr100 fun a w b6 hk G6 => ?_)
    refine la hk rfl (a_storeB hk rfl rfl (words_one _) (by rw [sz100]; simp [length_sched]) G6.at_ (by simp [Value.cells, length_sched]) fun a w hk W6 => ?_)
    have n26 : b2 ≠ b6 := G6.ne h2
    have n36 : b3 ≠ b6 := G6.ne h3
    have h2 := W6.keep n26 (ext_at G6.ext h2)
    have h3 := W6.keep n36 (ext_at G6.ext h3)
    have hRp := rd_wrote (hRp.ext G6.ext) W6 (by intro _ _ h; cases h; exact rd_fresh hRp (by simp; omega) G6)
    have hg6 : w0.heap.size ≤ b6 := Nat.le_trans hB.size G6.ge
    have hB := W6.below (ext_trans hB G6.ext) hg6
    have h6 := W6.at_
    clear W6 G6
    generalize hs : hst k s8init mm = s at h3
    refine lnil (hK9 _ _ ?_)
    refine wp_seq_k fun K10 hK10 => ?_
    refine wp_region_ok (fun _ => True) [0, 1, 0, 1, 0, 1, 0, 1, 0, 1, 0, 1, 0, 1, 0, 1, 0, 0, 0, 0, 0, 0, 0, 0] mixed ?_
    have hB := hB.drew
    have h2 := ext_at (ext_drew w) h2
    have h3 := ext_at (ext_drew w) h3
    have h6 := ext_at (ext_drew w) h6
    have hRp := hRp.ext (ext_drew w)
    refine d0 0 hk rfl (by kernel_rfl) rfl rfl rfl rfl (fun _ => e_idxA1 0 hk rfl rfl Tryd.underlying30 sz29 rfl (by decide) _) fun a hk => ?_
    refine d1 1 hk rfl (by kernel_rfl) rfl rfl rfl rfl (r_load (v := W s.a) hk rfl Tryd.underlying29 rfl h3 rfl) fun a hk => ?_
    refine d0 2 hk rfl (by kernel_rfl) rfl rfl rfl rfl (fun _ => e_idxA1 1 hk rfl rfl Tryd.underlying30 sz29 rfl (by decide) _) fun a hk => ?_
    refine d1 3 hk rfl (by kernel_rfl) rfl rfl rfl rfl (r_load (v := W s.b) hk rfl Tryd.underlying29 rfl h3 rfl) fun a hk => ?_
    refine d0 4 hk rfl (by kernel_rfl) rfl rfl rfl rfl (fun _ => e_idxA1 2 hk rfl rfl Tryd.underlying30 sz29 rfl (by decide) _) fun a hk => ?_
    refine d1 5 hk rfl (by kernel_rfl) rfl rfl rfl rfl (r_load (v := W s.c) hk rfl Tryd.underlying29 rfl h3 rfl) fun a hk => ?_
    refine d0 6 hk rfl (by kernel_rfl) rfl rfl rfl rfl (fun _ => e_idxA1 3 hk rfl rfl Tryd.underlying30 sz29 rfl (by decide) _) fun a hk => ?_
    refine d1 7 hk rfl (by kernel_rfl) rfl rfl rfl rfl (r_load (v := W s.d) hk rfl Tryd.underlying29 rfl h3 rfl) fun a hk => ?_
    refine d0 8 hk rfl (by kernel_rfl) rfl rfl rfl rfl (fun _ => e_idxA1 4 hk rfl rfl Tryd.underlying30 sz29 rfl (by decide) _) fun a hk => ?_
    refine d1 9 hk rfl (by kernel_rfl) rfl rfl rfl rfl (r_load (v := W s.e) hk rfl Tryd.underlying29 rfl h3 rfl) fun a hk => ?_
    refine d0 10 hk rfl (by kernel_rfl) rfl rfl rfl rfl (fun _ => e_idxA1 5 hk rfl rfl Tryd.underlying30 sz29 rfl (by decide) _) fun a hk => ?_
    refine d1 11 hk rfl (by kernel_rfl) rfl rfl rfl rfl (r_load (v := W s.f) hk rfl Tryd.underlying29 rfl h3 rfl) fun a hk => ?_
    refine d0 12 hk rfl (by kernel_rfl) rfl rfl rfl rfl (fun _ => e_idxA1 6 hk rfl rfl Tryd.underlying30 sz29 rfl (by decide) _) fun a hk => ?_
    refine d1 13 hk rfl (by kernel_rfl) rfl rfl rfl rfl (r_load (v := W s.g) hk rfl Tryd.underlying29 rfl h3 rfl) fun a hk => ?_
    refine d0 14 hk rfl (by kernel_rfl) rfl rfl rfl rfl (fun _ => e_idxA1 7 hk rfl rfl Tryd.underlying30 sz29 rfl (by decide) _) fun a hk => ?_
    refine d1 15 hk rfl (by kernel_rfl) rfl rfl rfl rfl (r_load (v := W s.h) hk rfl Tryd.underlying29 rfl h3 rfl) fun a hk => ?_
    refine d0 16 hk rfl (by kernel_rfl) rfl rfl rfl rfl (fun _ => e_assign hk rfl _) fun a hk => ?_
    refine d0 17 hk rfl (by kernel_rfl) rfl rfl rfl rfl (fun _ => e_assign hk rfl _) fun a hk => ?_
    refine d0 18 hk rfl (by kernel_rfl) rfl rfl rfl rfl (fun _ => e_assign hk rfl _) fun a hk => ?_
    refine d0 19 hk rfl (by kernel_rfl) rfl rfl rfl rfl (fun _ => e_assign hk rfl _) fun a hk => ?_
    refine d0 20 hk rfl (by kernel_rfl) rfl rfl rfl rfl (fun _ => e_assign hk rfl _) fun a hk => ?_
    refine d0 21 hk rfl (by kernel_rfl) rfl rfl rfl rfl (fun _ => e_assign hk rfl _) fun a hk => ?_
    refine d0 22 hk rfl (by kernel_rfl) rfl rfl rfl rfl (fun _ => e_assign hk rfl _) fun a hk => ?_
    refine d0 23 hk rfl (by kernel_rfl) rfl rfl rfl rfl (fun _ => e_assign hk rfl _) fun a hk => ?_
    refine okFin (by kernel_rfl) (hK10 _ _ ?_)
    refine wp_seq_k fun K11 hK11 => ?_
    refine wp_seq_k fun K12 hK12 => ?_
    refine wp_region_lit ?_
    refine ls hk rfl rfl rfl (e_assign hk rfl _) fun a hk => ?_
    refine lnil (hK12 _ _ ?_)
    refine wp_block ?_
    refine loopN (fun n a w => ∃ t : Nat, n = 64 - t ∧ t ≤ 64 ∧ Kn a 164 [(2, .pointer (some ⟨b2, 0, none⟩)), (3, .pointer (some ⟨b3, 0, none⟩)), (4, .slice (some ⟨bp, op, none⟩) mm.length cp), (5, I (64 * k : Nat)), (6, .pointer (some ⟨b6, 0, none⟩)), (7, W (rnds (sched blk 64) s t).a), (8, W (rnds (sched blk 64) s t).b), (9, W (rnds (sched blk 64) s t).c), (10, W (rnds (sched blk 64) s t).d), (11, W (rnds (sched blk 64) s t).e), (12, W (rnds (sched blk 64) s t).f), (13, W (rnds (sched blk 64) s t).g), (14, W (rnds (sched blk 64) s t).h), (15, I t)] ∧ Below w0.heap.size w0 w ∧ (∃ z, w.heap[b2]? = some (.cells z 24 (0, 0)) ∧ z.size = 32) ∧ w.heap[b3]? = some (.cells ((s).list.map W).toArray 30 (0, 0)) ∧ Rd w (some ⟨bp, op, none⟩) mm.length cp 1 (mm.map B) ∧ w.heap[b6]? = some (.cells ((sched blk 64).map W).toArray 100 (0, 0))) (64) ?_ fun n a w hI => ?_
    · exact ⟨0, rfl, by omega, hk.sub _ ⟨rfl, rfl, rfl, rfl, rfl, rfl, rfl, rfl, rfl, rfl, rfl, rfl, rfl, rfl, trivial⟩, hB, ⟨_, h2, hz2⟩, h3, hRp, h6⟩
    clear hB h2 h3 hRp hz2 h6
    obtain ⟨t, rfl, ht, hk, hB, ⟨z2, h2, hz2⟩, h3, hRp, h6⟩ := hI
    generalize hr : rnds (sched blk 64) s t = r at hk
    refine wp_seq_k fun K13 hK13 => ?_
    refine wp_seq_k fun K14 hK14 => ?_
    refine wp_region_lit ?_
    refine ls hk rfl rfl rfl (e_move hk rfl _) fun a hk => ?_
    refine ls hk rfl rfl rfl (e_lss hk rfl rfl rfl _) fun a hk => ?_
    refine lnil (hK14 _ _ ?_)
    refine cdB hk rfl (fun hb => ?_) (fun hb => ?_)
    · have ht1 : t < 64 := by have := of_decide_eq_true hb; omega
      refine wp_skip (hK13 _ _ ?_)
      refine wp_seq_k fun K15 hK15 => ?_
      refine wp_block ?_
      refine wp_seq_k fun K16 hK16 => ?_
      refine wp_region_ok (fun w => w.heap[b6]? = some (.cells ((sched blk 64).map W).toArray 100 (0, 0)) ∧ GR w) [0, 0, 4, 0, 4, 0, 0, 4, 0, 0, 0, 0, 0, 0, 0, 0, 0, 0, 0, 0, 0, 3, 0, 0, 0, 3, 0, 0] mixed ?_
      have hB := hB.drew
      have h2 := ext_at (ext_drew w) h2
      have h3 := ext_at (ext_drew w) h3
      have hRp := hRp.ext (ext_drew w)
      have hS : w.drew.heap[b6]? = some (.cells ((sched blk 64).map W).toArray 100 (0, 0)) ∧ GR w.drew := ⟨ext_at (ext_drew w) h6, hGR.ext hB⟩
      refine d0 0 hk rfl (by kernel_rfl) rfl rfl rfl rfl (fun _ => e_move hk rfl _) fun a hk => ?_
      refine d0 1 hk rfl (by kernel_rfl) rfl rfl rfl rfl (fun _ => e_move hk rfl _) fun a hk => ?_
      refine da4 2 hk rfl (by kernel_rfl) rfl rfl hS (a_call hk rfl rfl (c_fn hk rfl ok69) (c69 r.e 6 (by decide) (by decide) _) ?_)
      rintro e w ⟨rfl, hE⟩
      refine ⟨_, rfl, fun a hk => ⟨⟨ext_at hE hS.1, GR.ext hS.2 hE⟩, ?_⟩⟩
      have hS : w.heap[b6]? = some (.cells ((sched blk 64).map W).toArray 100 (0, 0)) ∧ GR w := ⟨ext_at hE hS.1, GR.ext hS.2 hE⟩
      have h2 := ext_at hE h2
      have h3 := ext_at hE h3
      have hRp := hRp.ext hE
      have hB := ext_trans hB hE
      clear hE
      refine d0 3 hk rfl (by kernel_rfl) rfl rfl rfl rfl (fun _ => e_move hk rfl _) fun a hk => ?_
      refine da4 4 hk rfl (by kernel_rfl) rfl rfl hS (a_call hk rfl rfl (c_fn hk rfl ok69) (c69 r.e 11 (by decide) (by decide) _) ?_)
      rintro e w ⟨rfl, hE⟩
      refine ⟨_, rfl, fun a hk => ⟨⟨ext_at hE hS.1, GR.ext hS.2 hE⟩, ?_⟩⟩
      have hS : w.heap[b6]? = some (.cells ((sched blk 64).map W).toArray 100 (0, 0)) ∧ GR w := ⟨ext_at hE hS.1, GR.ext hS.2 hE⟩
      have h2 := ext_at hE h2
      have h3 := ext_at hE h3
      have hRp := hRp.ext hE
      have hB := ext_trans hB hE
      clear hE
      refine d0 5 hk rfl (by kernel_rfl) rfl rfl rfl rfl (fun _ => e_xor hk rfl rfl (w_xor _ _) _) fun a hk => ?_
      refine d0 6 hk rfl (by kernel_rfl) rfl rfl rfl rfl (fun _ => e_move hk rfl _) fun a hk => ?_
      refine da4 7 hk rfl (by kernel_rfl) rfl rfl hS (a_call hk rfl rfl (c_fn hk rfl ok69) (c69 r.e 25 (by decide) (by decide) _) ?_)
      rintro e w ⟨rfl, hE⟩
      refine ⟨_, rfl, fun a hk => ⟨⟨ext_at hE hS.1, GR.ext hS.2 hE⟩, ?_⟩⟩
      have hS : w.heap[b6]? = some (.cells ((sched blk 64).map W).toArray 100 (0, 0)) ∧ GR w := ⟨ext_at hE hS.1, GR.ext hS.2 hE⟩
      have h2 := ext_at hE h2
      have h3 := ext_at hE h3
      have hRp := hRp.ext hE
      have hB := ext_trans hB hE
      clear hE
      refine d0 8 hk rfl (by kernel_rfl) rfl rfl rfl rfl (fun _ => e_xor hk rfl rfl (w_xor _ _) _) fun a hk => ?_
      refine d0 9 hk rfl (by kernel_rfl) rfl rfl rfl rfl (fun _ => e_add hk rfl rfl (w_add _ _) _) fun a hk => ?_
      refine d0 10 hk rfl (by kernel_rfl) rfl rfl rfl rfl (fun _ => e_move hk rfl _) fun a hk => ?_
      refine d0 11 hk rfl (by kernel_rfl) rfl rfl rfl rfl (fun _ => e_move hk rfl _) fun a hk => ?_
      refine d0 12 hk rfl (by kernel_rfl) rfl rfl rfl rfl (fun _ => e_and hk rfl rfl (w_and _ _) _) fun a hk => ?_
      refine d0 13 hk rfl (by kernel_rfl) rfl rfl rfl rfl (fun _ => e_move hk rfl _) fun a hk => ?_
      refine d0 14 hk rfl (by kernel_rfl) rfl rfl rfl rfl (fun _ => e_xor hk rfl rfl (w_xor r.e 4294967295) _) fun a hk => ?_
      refine d0 15 hk rfl (by kernel_rfl) rfl rfl rfl rfl (fun _ => e_move hk rfl _) fun a hk => ?_
      refine d0 16 hk rfl (by kernel_rfl) rfl rfl rfl rfl (fun _ => e_and hk rfl rfl (w_and _ _) _) fun a hk => ?_
      refine d0 17 hk rfl (by kernel_rfl) rfl rfl rfl rfl (fun _ => e_xor hk rfl rfl (w_xor _ _) _) fun a hk => ?_
      refine d0 18 hk rfl (by kernel_rfl) rfl rfl rfl rfl (fun _ => e_add hk rfl rfl (w_add _ _) _) fun a hk => ?_
      refine d0 19 hk rfl (by kernel_rfl) rfl rfl rfl rfl (fun _ => e_move hk rfl _) fun a hk => ?_
      refine d0 20 hk rfl (by kernel_rfl) rfl rfl rfl rfl (fun _ => e_idxA1 t hk rfl rfl Tryd.underlying100 sz29 rfl (by omega) _) fun a hk => ?_
      refine d3 21 hk rfl (by kernel_rfl) rfl rfl rfl rfl hS (fun w hS => r_load1 (v := W (kc.getD t 0)) hk rfl Tryd.underlying29 rfl (kc_at hS.2 t ht1)) fun a hk => ?_
      refine d0 22 hk rfl (by kernel_rfl) rfl rfl rfl rfl (fun _ => e_add hk rfl rfl (w_add _ _) _) fun a hk => ?_
      refine d0 23 hk rfl (by kernel_rfl) rfl rfl rfl rfl (fun _ => e_move hk rfl _) fun a hk => ?_
      refine d0 24 hk rfl (by kernel_rfl) rfl rfl rfl rfl (fun _ => e_idxA1 t hk rfl rfl Tryd.underlying100 sz29 rfl (by omega) _) fun a hk => ?_
      refine d3 25 hk rfl (by kernel_rfl) rfl rfl rfl rfl hS (fun w hS => r_load (v := W ((sched blk 64).getD t 0)) hk rfl Tryd.underlying29 rfl hS.1 (map_get_w _ t _ ((sched blk 64).getD t 0) (by omega) (by simp [length_sched, ht1]))) fun a hk => ?_
      refine d0 26 hk rfl (by kernel_rfl) rfl rfl rfl rfl (fun _ => e_add hk rfl rfl (w_add _ _) _) fun a hk => ?_
      refine d0 27 hk rfl (by kernel_rfl) rfl rfl rfl rfl (fun _ => e_assign hk rfl _) fun a hk => ?_
      rw [not_eq] at hk
      have hk := hk.sub [(2, .pointer (some ⟨b2, 0, none⟩)), (3, .pointer (some ⟨b3, 0, none⟩)), (4, .slice (some ⟨bp, op, none⟩) mm.length cp), (5, I (64 * k : Nat)), (6, .pointer (some ⟨b6, 0, none⟩)), (7, W r.a), (8, W r.b), (9, W r.c), (10, W r.d), (11, W r.e), (12, W r.f), (13, W r.g), (14, W r.h), (15, I t), (16, W (xOf (kc.getD t 0) ((sched blk 64).getD t 0) r))] ⟨rfl, rfl, rfl, rfl, rfl, rfl, rfl, rfl, rfl, rfl, rfl, rfl, rfl, rfl, rfl, trivial⟩
      have h6 := hS.1
      clear hS
      refine okFin (by kernel_rfl) (hK16 _ _ ?_)
      refine wp_seq_k fun K17 hK17 => ?_
      refine wp_region_lit ?_
      refine ls hk rfl rfl rfl (e_move hk rfl _) fun a hk => ?_
      refine la hk rfl (a_call hk rfl rfl (c_fn hk rfl ok69) (c69 r.a 2 (by decide) (by decide) _) ?_)
      rintro e w ⟨rfl, hE⟩
      refine ⟨_, rfl, fun a hk => ?_⟩
      have h6 := ext_at hE h6
      have h2 := ext_at hE h2
      have h3 := ext_at hE h3
      have hRp := hRp.ext hE
      have hB := ext_trans hB hE
      clear hE
      refine ls hk rfl rfl rfl (e_move hk rfl _) fun a hk => ?_
      refine la hk rfl (a_call hk rfl rfl (c_fn hk rfl ok69) (c69 r.a 13 (by decide) (by decide) _) ?_)
      rintro e w ⟨rfl, hE⟩
      refine ⟨_, rfl, fun a hk => ?_⟩
      have h6 := ext_at hE h6
      have h2 := ext_at hE h2
      have h3 := ext_at hE h3
      have hRp := hRp.ext hE
      have hB := ext_trans hB hE
      clear hE
      refine ls hk rfl rfl rfl (e_xor hk rfl rfl (w_xor _ _) _) fun a hk => ?_
      refine ls hk rfl rfl rfl (e_move hk rfl _) fun a hk => ?_
      refine la hk rfl (a_call hk rfl rfl (c_fn hk rfl ok69) (c69 r.a 22 (by decide) (by decide) _) ?_)
      rintro e w ⟨rfl, hE⟩
      refine ⟨_, rfl, fun a hk => ?_⟩
      have h6 := ext_at hE h6
      have h2 := ext_at hE h2
      have h3 := ext_at hE h3
      have hRp := hRp.ext hE
      have hB := ext_trans hB hE
      clear hE
      refine ls hk rfl rfl rfl (e_xor hk rfl rfl (w_xor _ _) _) fun a hk => ?_
      refine ls hk rfl rfl rfl (e_move hk rfl _) fun a hk => ?_
      refine ls hk rfl rfl rfl (e_move hk rfl _) fun a hk => ?_
      refine ls hk rfl rfl rfl (e_and hk rfl rfl (w_and _ _) _) fun a hk => ?_
      refine ls hk rfl rfl rfl (e_move hk rfl _) fun a hk => ?_
      refine ls hk rfl rfl rfl (e_move hk rfl _) fun a hk => ?_
      refine ls hk rfl rfl rfl (e_and hk rfl rfl (w_and _ _) _) fun a hk => ?_
      refine ls hk rfl rfl rfl (e_xor hk rfl rfl (w_xor _ _) _) fun a hk => ?_
      refine ls hk rfl rfl rfl (e_move hk rfl _) fun a hk => ?_
      refine ls hk rfl rfl rfl (e_move hk rfl _) fun a hk => ?_
      refine ls hk rfl rfl rfl (e_and hk rfl rfl (w_and _ _) _) fun a hk => ?_
      refine ls hk rfl rfl rfl (e_xor hk rfl rfl (w_xor _ _) _) fun a hk => ?_
      refine ls hk rfl rfl rfl (e_add hk rfl rfl (w_add _ _) _) fun a hk => ?_
      refine ls hk rfl rfl rfl (e_assign hk rfl _) fun a hk => ?_
      have hk := hk.sub [(2, .pointer (some ⟨b2, 0, none⟩)), (3, .pointer (some ⟨b3, 0, none⟩)), (4, .slice (some ⟨bp, op, none⟩) mm.length cp), (5, I (64 * k : Nat)), (6, .pointer (some ⟨b6, 0, none⟩)), (7, W r.a), (8, W r.b), (9, W r.c), (10, W r.d), (11, W r.e), (12, W r.f), (13, W r.g), (14, W r.h), (15, I t), (16, W (xOf (kc.getD t 0) ((sched blk 64).getD t 0) r)), (17, W (yOf' r))] ⟨rfl, rfl, rfl, rfl, rfl, rfl, rfl, rfl, rfl, rfl, rfl, rfl, rfl, rfl, rfl, rfl, trivial⟩
      refine lnil (hK17 _ _ ?_)
      refine wp_seq_k fun K18 hK18 => ?_
      refine wp_region_lit ?_
      refine ls hk rfl rfl rfl (e_move hk rfl _) fun a hk => ?_
      refine ls hk rfl rfl rfl (e_assign hk rfl _) fun a hk => ?_
      refine lnil (hK18 _ _ ?_)
      refine wp_seq_k fun K19 hK19 => ?_
      refine wp_region_lit ?_
      refine ls hk rfl rfl rfl (e_move hk rfl _) fun a hk => ?_
      refine ls hk rfl rfl rfl (e_assign hk rfl _) fun a hk => ?_
      refine lnil (hK19 _ _ ?_)
      refine wp_seq_k fun K20 hK20 => ?_
      refine wp_region_lit ?_
      refine ls hk rfl rfl rfl (e_move hk rfl _) fun a hk => ?_
      refine ls hk rfl rfl rfl (e_assign hk rfl _) fun a hk => ?_
      refine lnil (hK20 _ _ ?_)
      refine wp_seq_k fun K21 hK21 => ?_
      refine wp_region_lit ?_
      refine ls hk rfl rfl rfl (e_move hk rfl _) fun a hk => ?_
      refine ls hk rfl rfl rfl (e_move hk rfl _) fun a hk => ?_
      refine ls hk rfl rfl rfl (e_add hk rfl rfl (w_add _ _) _) fun a hk => ?_
      refine ls hk rfl rfl rfl (e_assign hk rfl _) fun a hk => ?_
      refine lnil (hK21 _ _ ?_)
      refine wp_seq_k fun K22 hK22 => ?_
      refine wp_region_lit ?_
      refine ls hk rfl rfl rfl (e_move hk rfl _) fun a hk => ?_
      refine ls hk rfl rfl rfl (e_assign hk rfl _) fun a hk => ?_
      refine lnil (hK22 _ _ ?_)
      refine wp_seq_k fun K23 hK23 => ?_
      refine wp_region_lit ?_
      refine ls hk rfl rfl rfl (e_move hk rfl _) fun a hk => ?_
      refine ls hk rfl rfl rfl (e_assign hk rfl _) fun a hk => ?_
      refine lnil (hK23 _ _ ?_)
      refine wp_seq_k fun K24 hK24 => ?_
      refine wp_region_lit ?_
      refine ls hk rfl rfl rfl (e_move hk rfl _) fun a hk => ?_
      refine ls hk rfl rfl rfl (e_assign hk rfl _) fun a hk => ?_
      refine lnil (hK24 _ _ ?_)
      refine wp_region_lit ?_
      refine ls hk rfl rfl rfl (e_move hk rfl _) fun a hk => ?_
      refine ls hk rfl rfl rfl (e_move hk rfl _) fun a hk => ?_
      refine ls hk rfl rfl rfl (e_add hk rfl rfl (w_add _ _) _) fun a hk => ?_
      refine ls hk rfl rfl rfl (e_assign hk rfl _) fun a hk => ?_
      have hk := hk.sub [(2, .pointer (some ⟨b2, 0, none⟩)), (3, .pointer (some ⟨b3, 0, none⟩)), (4, .slice (some ⟨bp, op, none⟩) mm.length cp), (5, I (64 * k : Nat)), (6, .pointer (some ⟨b6, 0, none⟩)), (7, W (rnd (kc.getD t 0) ((sched blk 64).getD t 0) r).a), (8, W (rnd (kc.getD t 0) ((sched blk 64).getD t 0) r).b), (9, W (rnd (kc.getD t 0) ((sched blk 64).getD t 0) r).c), (10, W (rnd (kc.getD t 0) ((sched blk 64).getD t 0) r).d), (11, W (rnd (kc.getD t 0) ((sched blk 64).getD t 0) r).e), (12, W (rnd (kc.getD t 0) ((sched blk 64).getD t 0) r).f), (13, W (rnd (kc.getD t 0) ((sched blk 64).getD t 0) r).g), (14, W (rnd (kc.getD t 0) ((sched blk 64).getD t 0) r).h), (15, I t)] ⟨rfl, rfl, rfl, rfl, rfl, rfl, rfl, rfl, rfl, rfl, rfl, rfl, rfl, rfl, trivial⟩
      rw [← hr] at hk
      refine lnil (hK15 _ _ ?_)
      refine wp_region_lit ?_
      refine ls hk rfl rfl rfl (e_move hk rfl _) fun a hk => ?_
      refine ls hk rfl rfl rfl (e_add hk rfl rfl (i64 (by omega) (by omega)) _) fun a hk => ?_
      refine ls hk rfl rfl rfl (e_assign hk rfl _) fun a hk => ?_
      refine lnil (show ∃ m : Nat, m < _ ∧ _ from ⟨64 - (t + 1), by omega, t + 1, rfl, by omega, hk.sub _ ⟨rfl, rfl, rfl, rfl, rfl, rfl, rfl, rfl, rfl, rfl, rfl, rfl, rfl, rfl, trivial⟩, hB, ⟨_, h2, hz2⟩, h3, hRp, h6⟩)
    · have ht1 : t = 64 := by have := of_decide_eq_false hb; omega
      subst ht1
      refine wp_exit (hK11 _ _ ?_)
      refine wp_region_lit ?_
      refine ls hk rfl rfl rfl (e_idxA1 0 hk rfl rfl Tryd.underlying30 sz29 rfl (by decide) _) fun a hk => ?_
      refine ls hk rfl rfl rfl (r_load (v := W s.a) hk rfl Tryd.underlying29 rfl h3 rfl) fun a hk => ?_
      refine ls hk rfl rfl rfl (e_move hk rfl _) fun a hk => ?_
      refine ls hk rfl rfl rfl (e_add hk rfl rfl (w_add _ _) _) fun a hk => ?_
      refine ls hk rfl rfl rfl (e_idxA1 1 hk rfl rfl Tryd.underlying30 sz29 rfl (by decide) _) fun a hk => ?_
      refine ls hk rfl rfl rfl (r_load (v := W s.b) hk rfl Tryd.underlying29 rfl h3 rfl) fun a hk => ?_
      refine ls hk rfl rfl rfl (e_move hk rfl _) fun a hk => ?_
      refine ls hk rfl rfl rfl (e_add hk rfl rfl (w_add _ _) _) fun a hk => ?_
      refine ls hk rfl rfl rfl (e_idxA1 2 hk rfl rfl Tryd.underlying30 sz29 rfl (by decide) _) fun a hk => ?_
      refine ls hk rfl rfl rfl (r_load (v := W s.c) hk rfl Tryd.underlying29 rfl h3 rfl) fun a hk => ?_
      refine ls hk rfl rfl rfl (e_move hk rfl _) fun a hk => ?_
      refine ls hk rfl rfl rfl (e_add hk rfl rfl (w_add _ _) _) fun a hk => ?_
      refine ls hk rfl rfl rfl (e_idxA1 3 hk rfl rfl Tryd.underlying30 sz29 rfl (by decide) _) fun a hk => ?_
      refine ls hk rfl rfl rfl (r_load (v := W s.d) hk rfl Tryd.underlying29 rfl h3 rfl) fun a hk => ?_
      refine ls hk rfl rfl rfl (e_move hk rfl _) fun a hk => ?_
      refine ls hk rfl rfl rfl (e_add hk rfl rfl (w_add _ _) _) fun a hk => ?_
      refine ls hk rfl rfl rfl (e_idxA1 4 hk rfl rfl Tryd.underlying30 sz29 rfl (by decide) _) fun a hk => ?_
      refine ls hk rfl rfl rfl (r_load (v := W s.e) hk rfl Tryd.underlying29 rfl h3 rfl) fun a hk => ?_
      refine ls hk rfl rfl rfl (e_move hk rfl _) fun a hk => ?_
      refine ls hk rfl rfl rfl (e_add hk rfl rfl (w_add _ _) _) fun a hk => ?_
      refine ls hk rfl rfl rfl (e_idxA1 5 hk rfl rfl Tryd.underlying30 sz29 rfl (by decide) _) fun a hk => ?_
      refine ls hk rfl rfl rfl (r_load (v := W s.f) hk rfl Tryd.underlying29 rfl h3 rfl) fun a hk => ?_
      refine ls hk rfl rfl rfl (e_move hk rfl _) fun a hk => ?_
      refine ls hk rfl rfl rfl (e_add hk rfl rfl (w_add _ _) _) fun a hk => ?_
      refine ls hk rfl rfl rfl (e_idxA1 6 hk rfl rfl Tryd.underlying30 sz29 rfl (by decide) _) fun a hk => ?_
      refine ls hk rfl rfl rfl (r_load (v := W s.g) hk rfl Tryd.underlying29 rfl h3 rfl) fun a hk => ?_
      refine ls hk rfl rfl rfl (e_move hk rfl _) fun a hk => ?_
      refine ls hk rfl rfl rfl (e_add hk rfl rfl (w_add _ _) _) fun a hk => ?_
      refine ls hk rfl rfl rfl (e_idxA1 7 hk rfl rfl Tryd.underlying30 sz29 rfl (by decide) _) fun a hk => ?_
      refine ls hk rfl rfl rfl (r_load (v := W s.h) hk rfl Tryd.underlying29 rfl h3 rfl) fun a hk => ?_
      refine ls hk rfl rfl rfl (e_move hk rfl _) fun a hk => ?_
      refine ls hk rfl rfl rfl (e_add hk rfl rfl (w_add _ _) _) fun a hk => ?_
      generalize hya : s.a + r.a = ya at hk
      generalize hyb : s.b + r.b = yb at hk
      generalize hyc : s.c + r.c = yc at hk
      generalize hyd : s.d + r.d = yd at hk
      generalize hye : s.e + r.e = ye at hk
      generalize hyf : s.f + r.f = yf at hk
      generalize hyg : s.g + r.g = yg at hk
      generalize hyh : s.h + r.h = yh at hk
      refine ls hk rfl rfl rfl (e_buildA (cells := #[W ya, W yb, W yc, W yd, W ye, W yf, W yg, W yh]) hk rfl zr30 Tryd.underlying30 sz29 (fill8 _ _ _ _ _ _ _ _ rfl rfl rfl rfl rfl rfl rfl rfl) _) fun a hk => ?_
      refine la hk rfl (a_storeB hk rfl rfl (words_one [ya, yb, yc, yd, ye, yf, yg, yh]) sz30 h3 rfl fun a w hk W21 => ?_)
      have hB := W21.below hB hg3
      have h2 := W21.keep hne h2
      have hRp := rd_wrote hRp W21 (by intro _ _ h; cases h; exact hnp _ _ rfl)
      have h3 : w.heap[b3]? = some (.cells ((hst (k + 1) s8init mm).list.map W).toArray 30 (0, 0)) := by
        have h := W21.at_
        rw [hst_succ, ← hblk, hs, compress, hr, S8.add, hya, hyb, hyc, hyd, hye, hyf, hyg, hyh]; exact h
      clear W21
      refine lnil (hK8 _ _ ?_)
      refine wp_region_lit ?_
      refine ls hk rfl rfl rfl (e_move hk rfl _) fun a hk => ?_
      refine ls hk rfl rfl rfl (e_add (q := ((64 * (k + 1) : Nat) : Int)) hk rfl rfl (by rw [i64 (by omega) (by omega)]; omega) _) fun a hk => ?_
      refine ls hk rfl rfl rfl (e_assign hk rfl _) fun a hk => ?_
      refine lnil (show ∃ m : Nat, m < _ ∧ _ from ⟨mm.length - 64 * (k + 1), by omega, k + 1, rfl, by omega, hk.sub _ ⟨rfl, rfl, rfl, rfl, trivial⟩, hB, ⟨_, h2, hz2⟩, h3, hRp⟩)
  · have hge : 64 * k = mm.length := by have := of_decide_eq_false hb; omega
    have hkq : mm.length / 64 = k := by omega
    generalize hs : hst k s8init mm = s at h3
    refine wp_exit (hK4 _ _ ?_)
    refine wp_seq_k fun K25 hK25 => ?_
    refine wp_region_lit ?_
    refine la hk rfl (a_alloc hk rfl zr24 fun a w b18 hk G18 => ?_)
    have n218 : b2 ≠ b18 := G18.ne h2
    have n318 : b3 ≠ b18 := G18.ne h3
    have hg18 : w0.heap.size ≤ b18 := Nat.le_trans hB.size G18.ge
    have hB := ext_trans hB G18.ext
    have h2 := ext_at G18.ext h2
    have h3 := ext_at G18.ext h3
    have h18 := G18.at_
    clear G18
    refine lnil (hK25 _ _ ?_)
    refine wp_seq_k fun K26 hK26 => ?_
    refine wp_seq_k fun K27 hK27 => ?_
    refine wp_region_lit ?_
    refine ls hk rfl rfl rfl (e_assign hk rfl _) fun a hk => ?_
    refine lnil (hK27 _ _ ?_)
    refine wp_block ?_
    refine loopN (fun n a w => ∃ i : Nat, n = 32 - i ∧ i ≤ 32 ∧ Kn a 164 [(2, .pointer (some ⟨b2, 0, none⟩)), (3, .pointer (some ⟨b3, 0, none⟩)), (18, .pointer (some ⟨b18, 0, none⟩)), (19, I i)] ∧ Below w0.heap.size w0 w ∧ (∃ z, w.heap[b2]? = some (.cells z 24 (0, 0)) ∧ z.size = 32) ∧ w.heap[b3]? = some (.cells ((s).list.map W).toArray 30 (0, 0)) ∧ w.heap[b18]? = some (.cells (((out32 s).take i ++ List.replicate (32 - i) 0).map B).toArray 24 (0, 0))) (32) ?_ fun n a w hI => ?_
    · exact ⟨0, rfl, by omega, hk.sub _ ⟨rfl, rfl, rfl, rfl, trivial⟩, hB, ⟨_, h2, hz2⟩, h3, h18⟩
    clear hB h2 h3 h18 hz2
    obtain ⟨i, rfl, hi, hk, hB, ⟨z2, h2, hz2⟩, h3, h18⟩ := hI
    refine wp_seq_k fun K28 hK28 => ?_
    refine wp_seq_k fun K29 hK29 => ?_
    refine wp_region_lit ?_
    refine ls hk rfl rfl rfl (e_move hk rfl _) fun a hk => ?_
    refine ls hk rfl rfl rfl (e_lss hk rfl rfl rfl _) fun a hk => ?_
    refine lnil (hK29 _ _ ?_)
    refine cdB hk rfl (fun hb => ?_) (fun hb => ?_)
    · have hi32 : i < 32 := by have := of_decide_eq_true hb; omega
      refine wp_skip (hK28 _ _ ?_)
      refine wp_seq_k fun K30 hK30 => ?_
      refine wp_block ?_
      refine wp_region_lit ?_
      refine ls hk rfl rfl rfl (e_move hk rfl _) fun a hk => ?_
      refine ls hk rfl rfl rfl (e_move hk rfl _) fun a hk => ?_
      refine ls hk rfl rfl rfl (e_quo (q := ((i / 4 : Nat) : Int)) hk rfl rfl (by decide) (by rw [show ((i : Int)).tdiv 4 = ((i / 4 : Nat) : Int) from i_quo i 4, i64 (by omega) (by omega)]) _) fun a hk => ?_
      refine ls hk rfl rfl rfl (e_idxA1 (i / 4) hk rfl rfl Tryd.underlying30 sz29 rfl (by omega) _) fun a hk => ?_
      refine ls hk rfl rfl rfl (r_load (v := W (s.list.getD (i / 4) 0)) hk rfl Tryd.underlying29 rfl h3 (list_at _ _ (by omega))) fun a hk => ?_
      refine ls hk rfl rfl rfl (e_move hk rfl _) fun a hk => ?_
      refine ls hk rfl rfl rfl (e_rem (q := ((i % 4 : Nat) : Int)) hk rfl rfl (by decide) (i_rem i 4) _) fun a hk => ?_
      refine ls hk rfl rfl rfl (e_mul (q := ((8 * (i % 4) : Nat) : Int)) hk rfl rfl (by rw [i64 (by omega) (by omega)]; omega) _) fun a hk => ?_
      refine ls hk rfl rfl rfl (e_sub (q := ((24 - 8 * (i % 4) : Nat) : Int)) hk rfl rfl (by rw [i64 (by omega) (by omega)]; omega) _) fun a hk => ?_
      refine ls hk rfl rfl rfl (e_shr hk rfl rfl (by omega) (w_shr _ (24 - 8 * (i % 4)) (by omega)) _) fun a hk => ?_
      refine ls hk rfl rfl rfl (e_conv hk rfl Tryd.underlying29 Tryd.underlying5 (w_b _) _) fun a hk => ?_
      refine ls hk rfl rfl rfl (e_idxA1 i hk rfl rfl Tryd.underlying24 sz5 rfl (by omega) _) fun a hk => ?_
      refine la hk rfl (a_store (v := B (outB s i)) hk rfl rfl rfl sz5 h18 (by simp [length_out32]; omega) fun a w hk W15 => ?_)
      have hB := W15.below hB hg18
      have h2 := W15.keep n218 h2
      have h3 := W15.keep n318 h3
      have h18 : w.heap[b18]? = some (.cells (((out32 s).take (i + 1) ++ List.replicate (32 - (i + 1)) 0).map B).toArray 24 (0, 0)) := by
        have h := W15.at_
        rw [show 32 - i = (31 - i) + 1 by omega, List.replicate_succ, show (out32 s).take i ++ 0 :: List.replicate (31 - i) 0 = (out32 s).take i ++ [0] ++ List.replicate (31 - i) 0 by simp,
          bytes_set _ _ _ _ _ (by simp [length_out32]; omega)] at h
        rw [h, out32_take _ _ hi32, show 32 - (i + 1) = 31 - i by omega]
      clear W15
      refine lnil (hK30 _ _ ?_)
      refine wp_region_lit ?_
      refine ls hk rfl rfl rfl (e_move hk rfl _) fun a hk => ?_
      refine ls hk rfl rfl rfl (e_add hk rfl rfl (i64 (by omega) (by omega)) _) fun a hk => ?_
      refine ls hk rfl rfl rfl (e_assign hk rfl _) fun a hk => ?_
      refine lnil (show ∃ m : Nat, m < _ ∧ _ from ⟨32 - (i + 1), by omega, i + 1, rfl, by omega, hk.sub _ ⟨rfl, rfl, rfl, rfl, trivial⟩, hB, ⟨_, h2, hz2⟩, h3, h18⟩)
    · have hi32 : i = 32 := by have := of_decide_eq_false hb; omega
      subst hi32
      rw [List.take_of_length_le (by rw [length_out32]; omega), Nat.sub_self, List.replicate_zero, List.append_nil] at h18
      refine wp_exit (hK26 _ _ ?_)
      refine wp_seq_k fun K31 hK31 => ?_
      refine wp_region_lit ?_
      refine ls hk rfl rfl rfl (r_loadB hk rfl h18 Tryd.underlying24 rfl (by rw [sz24]; simp [length_out32])) fun a hk => ?_
      refine la hk rfl (a_storeB hk rfl rfl (bytes_oneA _) (by rw [sz24]; simp [length_out32]) h2 (by simp [length_out32, hz2]) fun a w hk W27 => ?_)
      refine lnil (hK31 _ _ ?_)
      refine wp_ret ?_
      exact retA hk rfl rfl W27.at_ Tryd.underlying24 rfl (by rw [sz24]; simp [length_out32]) ⟨by rw [← hs, ← hkq, ← hmm]; rfl, W27.below hB hg2⟩

end Go.Proofs.YtidfbboalbchiaaDoor
