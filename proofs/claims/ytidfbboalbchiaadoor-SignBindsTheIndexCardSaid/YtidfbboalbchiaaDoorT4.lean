/- Part 4 of the texts that a claim's last texts stand on: A15, A17, D, A18, A19, A20, UpB, UpC, Tree, Enc. Conditions: those that each theorem names. -/
import Derived.Test.YtidfbboalbchiaaDoorT3
import Derived.Test.YtidfbboalbchiaaDoorT1
import Derived.Test.YtidfbboalbchiaaDoorT2
import Derived.SliceStrings
namespace Go.Proofs.YtidfbboalbchiaaDoor
open Go Go.RowKit

theorem fill_cons (cs : Array Value) (i : Nat) (v : Value) (r : List (Nat × Value)) (hv : v.cells = #[v]) (hi : i < cs.size) : Instr.fill (fun i => some (i * 1, 1)) cs ((i, v) :: r) = Instr.fill (fun i => some (i * 1, 1)) (cs.setIfInBounds i v) r := by
  simp [Instr.fill, hv]
  omega
theorem fill8 (v0 v1 v2 v3 v4 v5 v6 v7 : Value) (h0 : v0.cells = #[v0]) (h1 : v1.cells = #[v1]) (h2 : v2.cells = #[v2]) (h3 : v3.cells = #[v3]) (h4 : v4.cells = #[v4]) (h5 : v5.cells = #[v5]) (h6 : v6.cells = #[v6]) (h7 : v7.cells = #[v7]) : Instr.fill (fun i => some (i * 1, 1)) (Value.agg (List.replicate 8 (Value.int .u32 0)).toArray).cells [(0, v0), (1, v1), (2, v2), (3, v3), (4, v4), (5, v5), (6, v6), (7, v7)] = some #[v0, v1, v2, v3, v4, v5, v6, v7] := by
  show Instr.fill (fun i => some (i * 1, 1)) (List.replicate 8 (Value.int .u32 0)).toArray _ = _
  rw [fill_cons _ 0 _ _ h0 (by simp), fill_cons _ 1 _ _ h1 (by simp), fill_cons _ 2 _ _ h2 (by simp), fill_cons _ 3 _ _ h3 (by simp), fill_cons _ 4 _ _ h4 (by simp), fill_cons _ 5 _ _ h5 (by simp), fill_cons _ 6 _ _ h6 (by simp), fill_cons _ 7 _ _ h7 (by simp)]
  simp [Instr.fill, List.replicate]
theorem not_eq (x : UInt32) : x ^^^ 4294967295 = ~~~x := by
  apply UInt32.toBitVec_inj.1
  show x.toBitVec ^^^ BitVec.allOnes 32 = ~~~x.toBitVec
  rw [BitVec.xor_allOnes]
theorem list_at (s : S8) (i : Nat) (h : i < 8) : (s.list.map W).toArray[0 + i]? = some (W (s.list.getD i 0)) := by
  have h8 : i < s.list.length := h
  simp [h8]
theorem hst_len (m : List UInt8) : 64 * ((m ++ padding m.length).length / 64) = (m ++ padding m.length).length := by
  rw [List.length_append, length_padding]; unfold zeros; omega

/-- A part of a row. -/
theorem sub_rd {w : World} {ad : Option Addr} {n c : Nat} {bs : List UInt8} (h : Rd w ad n c 1 (bs.map B)) (o k : Nat) (hk : o + k ≤ n) (h0 : 0 < k) : ∃ bp op, ad = some ⟨bp, op, none⟩ ∧ Rd w (some ⟨bp, op + o * 1, none⟩) k (c - o) 1 (((bs.drop o).take k).map B) := by
  have hn : bs.length = n := by have := h.1; simpa using this
  obtain ⟨bp, op, e, _⟩ := h.2.2 0 (B (bs.getD 0 0)) (by simp [show 0 < bs.length by omega])
  refine ⟨bp, op, e, by simp; omega, by have := h.2.1; omega, fun i u hu => ⟨bp, _, rfl, ?_⟩⟩
  have hi : i < k := by
    have := (List.getElem?_eq_some_iff.1 hu).1
    simp at this; omega
  rw [List.getElem?_map, List.getElem?_take, if_pos hi, List.getElem?_drop, ← List.getElem?_map] at hu
  obtain ⟨b', o', e', hc⟩ := h.2.2 (o + i) u hu
  rw [e] at e'
  cases e'
  rw [show op + o * 1 + i = op + (o + i) by omega]; exact hc
theorem rd_wrote {w w' : World} {ad : Option Addr} {n c sz : Nat} {xs : List Value} {b : Nat} {o : Obj} (h : Rd w ad n c sz xs) (hW : Wrote w w' b o) (hne : ∀ bp op, ad = some ⟨bp, op, none⟩ → bp ≠ b) : Rd w' ad n c sz xs :=
  ⟨h.1, h.2.1, fun i u hu => by obtain ⟨b', o', e, hc⟩ := h.2.2 i u hu; exact ⟨b', o', e, hW.cell (hne _ _ e) hc⟩⟩
theorem rd_fresh {w w' : World} {bp op n c : Nat} {xs : List Value} {b : Nat} {o : Obj} (h : Rd w (some ⟨bp, op, none⟩) n c 1 xs) (hx : 0 < xs.length) (G : Grew w w' b o) : bp ≠ b := by
  obtain ⟨b', o', e, hc⟩ := h.2.2 0 (xs[0]'hx) (by simp)
  cases e
  have h1 := World.block_lt_of_cell? w _ hc
  have h2 := G.ge
  have h3 : bp < w.heap.size := h1
  omega
theorem kc_at {w : World} (h : GR w) (t : Nat) (ht : t < 64) : w.cell? ⟨0, 0 + t, none⟩ = some (W (kc.getD t 0)) := by
  have hk : t < kc.length := ht
  exact h t _ (by simp [hk])

set_option maxRecDepth 4000 in
set_option maxHeartbeats 1000000 in
theorem c24 (m : List UInt8) (ad0 : Option Addr) (c0 : Nat) (w0 : World) (hR : Rd w0 ad0 m.length c0 1 (m.map B)) (hGR : GR w0) (hl : m.length ≤ 1000000000) :
    Calls Tryd.prog 24 #[.slice ad0 m.length c0] w0 fun e w' => e = .returned (.agg ((sha m).map B).toArray) ∧ Ext w0 w' := by
  refine start 164 Tryd.func24 rfl rfl rfl fun a hk => ?_
  refine wp_seq_k fun K1 hK1 => ?_
  refine wp_region_lit ?_
  refine la hk rfl (a_alloc hk rfl zr24 fun a w b2 hk G2 => ?_)
  refine lnil (hK1 _ _ ?_)
  refine wp_seq_k fun K2 hK2 => ?_
  have hB : Below w0.heap.size w0 w := G2.ext
  have h2 : ∃ z, w.heap[b2]? = some (.cells z 24 (0, 0)) ∧ z.size = 32 := ⟨_, G2.at_, rfl⟩
  have hg2 := G2.ge
  clear G2
  obtain ⟨z2, h2, hz2⟩ := h2
  refine wp_region_lit ?_
  refine ls hk rfl rfl rfl (e_buildA (cells := (s8init.list.map W).toArray) hk rfl zr30 Tryd.underlying30 sz29 (by kernel_rfl) _) fun a hk => ?_
  refine la hk rfl (a_alloc hk rfl zr30 fun a w b3 hk G3 => ?_)
  refine la hk rfl (a_storeB hk rfl rfl (words_one _) sz30 G3.at_ rfl fun a w hk W1 => ?_)
  have hne : b2 ≠ b3 := G3.ne h2
  have h2 := W1.keep hne (ext_at G3.ext h2)
  have hg3 : w0.heap.size ≤ b3 := Nat.le_trans hB.size G3.ge
  have hB := W1.below (ext_trans hB G3.ext) hg3
  have h3 : w.heap[b3]? = some (.cells (s8init.list.map W).toArray 30 (0, 0)) := W1.at_
  clear W1 G3
  refine lnil (hK2 _ _ ?_)
  refine wp_seq_k fun K3 hK3 => ?_
  refine wp_region_lit ?_
  refine ls hk rfl rfl rfl (e_move hk rfl _) fun a hk => ?_
  have hlt3 := heap_lt h3
  refine la hk rfl (a_call hk rfl rfl (c_fn hk rfl ok67) (c67 m ad0 c0 _ (hR.ext hB) hl) ?_)
  rintro e w ⟨adp, cp, rfl, hown, hE⟩
  refine ⟨_, rfl, fun a hk => ?_⟩
  have h2 := ext_at hE h2
  have h3 := ext_at hE h3
  have hB := ext_trans hB hE
  clear hE
  have hnp : ∀ bp op, adp = some ⟨bp, op, none⟩ → bp ≠ b3 := by
    intro bp op e
    subst e
    have := (hown.lt bp rfl).1
    omega
  obtain ⟨_, _, hv, hcp, hRp⟩ := Rd.of_own hown
  cases hv
  have hml := hst_len m
  have hlm : (m ++ padding m.length).length = m.length + 9 + zeros m.length := by rw [List.length_append, length_padding]; omega
  have hz64 : zeros m.length < 64 := Nat.mod_lt _ (by decide)
  generalize hmm : m ++ padding m.length = mm at hk hown hRp hcp hml hlm
  clear hown
  refine ls hk rfl rfl rfl (e_assign hk rfl _) fun a hk => ?_
  refine lnil (hK3 _ _ ?_)
  refine wp_seq_k fun K4 hK4 => ?_
  refine wp_seq_k fun K5 hK5 => ?_
  refine wp_region_lit ?_
  refine ls hk rfl rfl rfl (e_assign hk rfl _) fun a hk => ?_
  refine lnil (hK5 _ _ ?_)
  refine wp_block ?_
  refine loopN (fun n a w => ∃ k : Nat, n = mm.length - 64 * k ∧ 64 * k ≤ mm.length ∧ Kn a 164 [(2, .pointer (some ⟨b2, 0, none⟩)), (3, .pointer (some ⟨b3, 0, none⟩)), (4, .slice adp mm.length cp), (5, I (64 * k : Nat))] ∧ Below w0.heap.size w0 w ∧ (∃ z, w.heap[b2]? = some (.cells z 24 (0, 0)) ∧ z.size = 32) ∧ w.heap[b3]? = some (.cells ((hst k s8init mm).list.map W).toArray 30 (0, 0)) ∧ Rd w adp mm.length cp 1 (mm.map B)) (mm.length) ?_ fun n a w hI => ?_
  · exact ⟨0, rfl, Nat.zero_le _, hk.sub _ ⟨rfl, rfl, rfl, rfl, trivial⟩, hB, ⟨_, h2, hz2⟩, h3, hRp⟩
  clear hB h2 h3 hRp hz2
  obtain ⟨k, rfl, hk64, hk, hB, ⟨z2, h2, hz2⟩, h3, hRp⟩ := hI
  refine wp_seq_k fun K6 hK6 => ?_
  refine wp_seq_k fun K7 hK7 => ?_
  refine wp_region_lit ?_
  refine ls hk rfl rfl rfl (e_move hk rfl _) fun a hk => ?_
  refine ls hk rfl rfl rfl (e_move hk rfl _) fun a hk => ?_
  refine ls hk rfl rfl rfl (e_lenS hk rfl Tryd.underlying22 _) fun a hk => ?_
  refine ls hk rfl rfl rfl (e_lss hk rfl rfl rfl _) fun a hk => ?_
  refine lnil (hK7 _ _ ?_)
  refine cdB hk rfl (fun hb => ?_) (fun hb => ?_)
  · have hlt : 64 * k < mm.length := by have := of_decide_eq_true hb; omega
    have hlt2 : 64 * k + 64 ≤ mm.length := by omega
    obtain ⟨blk, hblk⟩ : ∃ blk, blk = (mm.drop (64 * k)).take 64 := ⟨_, rfl⟩
    have hbl : blk.length = 64 := by rw [hblk]; simp; omega
    obtain ⟨bp, op, rfl, hRb⟩ := sub_rd hRp (64 * k) 64 hlt2 (by decide)
    rw [← hblk] at hRb
    refine wp_skip (hK6 _ _ ?_)
    refine wp_seq_k fun K8 hK8 => ?_
    refine wp_block ?_
    refine wp_seq_k fun K9 hK9 => ?_
    refine wp_region_lit ?_
    refine ls hk rfl rfl rfl (e_move hk rfl _) fun a hk => ?_
    refine ls hk rfl rfl rfl (e_move hk rfl _) fun a hk => ?_
    refine ls hk rfl rfl rfl (e_move hk rfl _) fun a hk => ?_
    refine ls hk rfl rfl rfl (e_add (q := ((64 * k + 64 : Nat) : Int)) hk rfl rfl (by rw [i64 (by omega) (by omega)]; omega) _) fun a hk => ?_
    refine ls hk rfl rfl rfl (e_slSn (64 * k) 64 hk rfl rfl rfl Tryd.underlying22 sz5 (by omega) (by omega) (by have := hRp.2.1; omega) (by have := hRp.2.1; omega) _) fun a hk => ?_
    refine la hk rfl (a_call hk rfl rfl (c_fn hk rfl ok68) (c68 blk bp _ _ _ hbl (by simpa using hRb)) ?_)
    rintro e w ⟨rfl, hE⟩
    refine ⟨_, rfl, fun a hk => ?_⟩
    have h2 := ext_at hE h2
    have h3 := ext_at hE h3
    have hRp := hRp.ext hE
    have hB := ext_trans hB hE
    clear hE hRb
    refine la hk rfl (a_alloc hk rfl zr100 fun a w b6 hk G6 => ?_)
    refine la hk rfl (a_storeB hk rfl rfl (words_one _) (by rw [sz100]; simp [length_sched]) G6.at_ (by simp [Value.cells, length_sched]) fun a w hk W6 => ?_)
    have n26 : b2 ≠ b6 := G6.ne h2
    have n36 : b3 ≠ b6 := G6.ne h3
    have h2 := W6.keep n26 (ext_at G6.ext h2)
    have h3 := W6.keep n36 (ext_at G6.ext h3)
    have hRp := rd_wrote (hRp.ext G6.ext) W6 (by intro _ _ h; cases h; exact rd_fresh hRp (by simp; omega) G6)
    have hg6 : w0.heap.size ≤ b6 := Nat.le_trans hB.size G6.ge
    have hB := W6.below (ext_trans hB G6.ext) hg6
    have h6 := W6.at_
    clear W6 G6
    generalize hs : hst k s8init mm = s at h3
    refine lnil (hK9 _ _ ?_)
    refine wp_seq_k fun K10 hK10 => ?_
    refine wp_region_ok (fun _ => True) [0, 1, 0, 1, 0, 1, 0, 1, 0, 1, 0, 1, 0, 1, 0, 1, 0, 0, 0, 0, 0, 0, 0, 0] mixed ?_
    have hB := hB.drew
    have h2 := ext_at (ext_drew w) h2
    have h3 := ext_at (ext_drew w) h3
    have h6 := ext_at (ext_drew w) h6
    have hRp := hRp.ext (ext_drew w)
    refine d0 0 hk rfl (by kernel_rfl) rfl rfl rfl rfl (fun _ => e_idxA1 0 hk rfl rfl Tryd.underlying30 sz29 rfl (by decide) _) fun a hk => ?_
    refine d1 1 hk rfl (by kernel_rfl) rfl rfl rfl rfl (r_load (v := W s.a) hk rfl Tryd.underlying29 rfl h3 rfl) fun a hk => ?_
    refine d0 2 hk rfl (by kernel_rfl) rfl rfl rfl rfl (fun _ => e_idxA1 1 hk rfl rfl Tryd.underlying30 sz29 rfl (by decide) _) fun a hk => ?_
    refine d1 3 hk rfl (by kernel_rfl) rfl rfl rfl rfl (r_load (v := W s.b) hk rfl Tryd.underlying29 rfl h3 rfl) fun a hk => ?_
    refine d0 4 hk rfl (by kernel_rfl) rfl rfl rfl rfl (fun _ => e_idxA1 2 hk rfl rfl Tryd.underlying30 sz29 rfl (by decide) _) fun a hk => ?_
    refine d1 5 hk rfl (by kernel_rfl) rfl rfl rfl rfl (r_load (v := W s.c) hk rfl Tryd.underlying29 rfl h3 rfl) fun a hk => ?_
    refine d0 6 hk rfl (by kernel_rfl) rfl rfl rfl rfl (fun _ => e_idxA1 3 hk rfl rfl Tryd.underlying30 sz29 rfl (by decide) _) fun a hk => ?_
    refine d1 7 hk rfl (by kernel_rfl) rfl rfl rfl rfl (r_load (v := W s.d) hk rfl Tryd.underlying29 rfl h3 rfl) fun a hk => ?_
    refine d0 8 hk rfl (by kernel_rfl) rfl rfl rfl rfl (fun _ => e_idxA1 4 hk rfl rfl Tryd.underlying30 sz29 rfl (by decide) _) fun a hk => ?_
    refine d1 9 hk rfl (by kernel_rfl) rfl rfl rfl rfl (r_load (v := W s.e) hk rfl Tryd.underlying29 rfl h3 rfl) fun a hk => ?_
    refine d0 10 hk rfl (by kernel_rfl) rfl rfl rfl rfl (fun _ => e_idxA1 5 hk rfl rfl Tryd.underlying30 sz29 rfl (by decide) _) fun a hk => ?_
    refine d1 11 hk rfl (by kernel_rfl) rfl rfl rfl rfl (r_load (v := W s.f) hk rfl Tryd.underlying29 rfl h3 rfl) fun a hk => ?_
    refine d0 12 hk rfl (by kernel_rfl) rfl rfl rfl rfl (fun _ => e_idxA1 6 hk rfl rfl Tryd.underlying30 sz29 rfl (by decide) _) fun a hk => ?_
    refine d1 13 hk rfl (by kernel_rfl) rfl rfl rfl rfl (r_load (v := W s.g) hk rfl Tryd.underlying29 rfl h3 rfl) fun a hk => ?_
    refine d0 14 hk rfl (by kernel_rfl) rfl rfl rfl rfl (fun _ => e_idxA1 7 hk rfl rfl Tryd.underlying30 sz29 rfl (by decide) _) fun a hk => ?_
    refine d1 15 hk rfl (by kernel_rfl) rfl rfl rfl rfl (r_load (v := W s.h) hk rfl Tryd.underlying29 rfl h3 rfl) fun a hk => ?_
    refine d0 16 hk rfl (by kernel_rfl) rfl rfl rfl rfl (fun _ => e_assign hk rfl _) fun a hk => ?_
    refine d0 17 hk rfl (by kernel_rfl) rfl rfl rfl rfl (fun _ => e_assign hk rfl _) fun a hk => ?_
    refine d0 18 hk rfl (by kernel_rfl) rfl rfl rfl rfl (fun _ => e_assign hk rfl _) fun a hk => ?_
    refine d0 19 hk rfl (by kernel_rfl) rfl rfl rfl rfl (fun _ => e_assign hk rfl _) fun a hk => ?_
    refine d0 20 hk rfl (by kernel_rfl) rfl rfl rfl rfl (fun _ => e_assign hk rfl _) fun a hk => ?_
    refine d0 21 hk rfl (by kernel_rfl) rfl rfl rfl rfl (fun _ => e_assign hk rfl _) fun a hk => ?_
    refine d0 22 hk rfl (by kernel_rfl) rfl rfl rfl rfl (fun _ => e_assign hk rfl _) fun a hk => ?_
    refine d0 23 hk rfl (by kernel_rfl) rfl rfl rfl rfl (fun _ => e_assign hk rfl _) fun a hk => ?_
    refine okFin (by kernel_rfl) (hK10 _ _ ?_)
    refine wp_seq_k fun K11 hK11 => ?_
    refine wp_seq_k fun K12 hK12 => ?_
    refine wp_region_lit ?_
    refine ls hk rfl rfl rfl (e_assign hk rfl _) fun a hk => ?_
    refine lnil (hK12 _ _ ?_)
    refine wp_block ?_
    refine loopN (fun n a w => ∃ t : Nat, n = 64 - t ∧ t ≤ 64 ∧ Kn a 164 [(2, .pointer (some ⟨b2, 0, none⟩)), (3, .pointer (some ⟨b3, 0, none⟩)), (4, .slice (some ⟨bp, op, none⟩) mm.length cp), (5, I (64 * k : Nat)), (6, .pointer (some ⟨b6, 0, none⟩)), (7, W (rnds (sched blk 64) s t).a), (8, W (rnds (sched blk 64) s t).b), (9, W (rnds (sched blk 64) s t).c), (10, W (rnds (sched blk 64) s t).d), (11, W (rnds (sched blk 64) s t).e), (12, W (rnds (sched blk 64) s t).f), (13, W (rnds (sched blk 64) s t).g), (14, W (rnds (sched blk 64) s t).h), (15, I t)] ∧ Below w0.heap.size w0 w ∧ (∃ z, w.heap[b2]? = some (.cells z 24 (0, 0)) ∧ z.size = 32) ∧ w.heap[b3]? = some (.cells ((s).list.map W).toArray 30 (0, 0)) ∧ Rd w (some ⟨bp, op, none⟩) mm.length cp 1 (mm.map B) ∧ w.heap[b6]? = some (.cells ((sched blk 64).map W).toArray 100 (0, 0))) (64) ?_ fun n a w hI => ?_
    · exact ⟨0, rfl, by omega, hk.sub _ ⟨rfl, rfl, rfl, rfl, rfl, rfl, rfl, rfl, rfl, rfl, rfl, rfl, rfl, rfl, trivial⟩, hB, ⟨_, h2, hz2⟩, h3, hRp, h6⟩
    clear hB h2 h3 hRp hz2 h6
    obtain ⟨t, rfl, ht, hk, hB, ⟨z2, h2, hz2⟩, h3, hRp, h6⟩ := hI
    generalize hr : rnds (sched blk 64) s t = r at hk
    refine wp_seq_k fun K13 hK13 => ?_
    refine wp_seq_k fun K14 hK14 => ?_
    refine wp_region_lit ?_
    refine ls hk rfl rfl rfl (e_move hk rfl _) fun a hk => ?_
    refine ls hk rfl rfl rfl (e_lss hk rfl rfl rfl _) fun a hk => ?_
    refine lnil (hK14 _ _ ?_)
    refine cdB hk rfl (fun hb => ?_) (fun hb => ?_)
    · have ht1 : t < 64 := by have := of_decide_eq_true hb; omega
      refine wp_skip (hK13 _ _ ?_)
      refine wp_seq_k fun K15 hK15 => ?_
      refine wp_block ?_
      refine wp_seq_k fun K16 hK16 => ?_
      refine wp_region_ok (fun w => w.heap[b6]? = some (.cells ((sched blk 64).map W).toArray 100 (0, 0)) ∧ GR w) [0, 0, 4, 0, 4, 0, 0, 4, 0, 0, 0, 0, 0, 0, 0, 0, 0, 0, 0, 0, 0, 3, 0, 0, 0, 3, 0, 0] mixed ?_
      have hB := hB.drew
      have h2 := ext_at (ext_drew w) h2
      have h3 := ext_at (ext_drew w) h3
      have hRp := hRp.ext (ext_drew w)
      have hS : w.drew.heap[b6]? = some (.cells ((sched blk 64).map W).toArray 100 (0, 0)) ∧ GR w.drew := ⟨ext_at (ext_drew w) h6, hGR.ext hB⟩
      refine d0 0 hk rfl (by kernel_rfl) rfl rfl rfl rfl (fun _ => e_move hk rfl _) fun a hk => ?_
      refine d0 1 hk rfl (by kernel_rfl) rfl rfl rfl rfl (fun _ => e_move hk rfl _) fun a hk => ?_
      refine da4 2 hk rfl (by kernel_rfl) rfl rfl hS (a_call hk rfl rfl (c_fn hk rfl ok69) (c69 r.e 6 (by decide) (by decide) _) ?_)
      rintro e w ⟨rfl, hE⟩
      refine ⟨_, rfl, fun a hk => ⟨⟨ext_at hE hS.1, GR.ext hS.2 hE⟩, ?_⟩⟩
      have hS : w.heap[b6]? = some (.cells ((sched blk 64).map W).toArray 100 (0, 0)) ∧ GR w := ⟨ext_at hE hS.1, GR.ext hS.2 hE⟩
      have h2 := ext_at hE h2
      have h3 := ext_at hE h3
      have hRp := hRp.ext hE
      have hB := ext_trans hB hE
      clear hE
      refine d0 3 hk rfl (by kernel_rfl) rfl rfl rfl rfl (fun _ => e_move hk rfl _) fun a hk => ?_
      refine da4 4 hk rfl (by kernel_rfl) rfl rfl hS (a_call hk rfl rfl (c_fn hk rfl ok69) (c69 r.e 11 (by decide) (by decide) _) ?_)
      rintro e w ⟨rfl, hE⟩
      refine ⟨_, rfl, fun a hk => ⟨⟨ext_at hE hS.1, GR.ext hS.2 hE⟩, ?_⟩⟩
      have hS : w.heap[b6]? = some (.cells ((sched blk 64).map W).toArray 100 (0, 0)) ∧ GR w := ⟨ext_at hE hS.1, GR.ext hS.2 hE⟩
      have h2 := ext_at hE h2
      have h3 := ext_at hE h3
      have hRp := hRp.ext hE
      have hB := ext_trans hB hE
      clear hE
      refine d0 5 hk rfl (by kernel_rfl) rfl rfl rfl rfl (fun _ => e_xor hk rfl rfl (w_xor _ _) _) fun a hk => ?_
      refine d0 6 hk rfl (by kernel_rfl) rfl rfl rfl rfl (fun _ => e_move hk rfl _) fun a hk => ?_
      refine da4 7 hk rfl (by kernel_rfl) rfl rfl hS (a_call hk rfl rfl (c_fn hk rfl ok69) (c69 r.e 25 (by decide) (by decide) _) ?_)
      rintro e w ⟨rfl, hE⟩
      refine ⟨_, rfl, fun a hk => ⟨⟨ext_at hE hS.1, GR.ext hS.2 hE⟩, ?_⟩⟩
      have hS : w.heap[b6]? = some (.cells ((sched blk 64).map W).toArray 100 (0, 0)) ∧ GR w := ⟨ext_at hE hS.1, GR.ext hS.2 hE⟩
      have h2 := ext_at hE h2
      have h3 := ext_at hE h3
      have hRp := hRp.ext hE
      have hB := ext_trans hB hE
      clear hE
      refine d0 8 hk rfl (by kernel_rfl) rfl rfl rfl rfl (fun _ => e_xor hk rfl rfl (w_xor _ _) _) fun a hk => ?_
      refine d0 9 hk rfl (by kernel_rfl) rfl rfl rfl rfl (fun _ => e_add hk rfl rfl (w_add _ _) _) fun a hk => ?_
      refine d0 10 hk rfl (by kernel_rfl) rfl rfl rfl rfl (fun _ => e_move hk rfl _) fun a hk => ?_
      refine d0 11 hk rfl (by kernel_rfl) rfl rfl rfl rfl (fun _ => e_move hk rfl _) fun a hk => ?_
      refine d0 12 hk rfl (by kernel_rfl) rfl rfl rfl rfl (fun _ => e_and hk rfl rfl (w_and _ _) _) fun a hk => ?_
      refine d0 13 hk rfl (by kernel_rfl) rfl rfl rfl rfl (fun _ => e_move hk rfl _) fun a hk => ?_
      refine d0 14 hk rfl (by kernel_rfl) rfl rfl rfl rfl (fun _ => e_xor hk rfl rfl (w_xor r.e 4294967295) _) fun a hk => ?_
      refine d0 15 hk rfl (by kernel_rfl) rfl rfl rfl rfl (fun _ => e_move hk rfl _) fun a hk => ?_
      refine d0 16 hk rfl (by kernel_rfl) rfl rfl rfl rfl (fun _ => e_and hk rfl rfl (w_and _ _) _) fun a hk => ?_
      refine d0 17 hk rfl (by kernel_rfl) rfl rfl rfl rfl (fun _ => e_xor hk rfl rfl (w_xor _ _) _) fun a hk => ?_
      refine d0 18 hk rfl (by kernel_rfl) rfl rfl rfl rfl (fun _ => e_add hk rfl rfl (w_add _ _) _) fun a hk => ?_
      refine d0 19 hk rfl (by kernel_rfl) rfl rfl rfl rfl (fun _ => e_move hk rfl _) fun a hk => ?_
      refine d0 20 hk rfl (by kernel_rfl) rfl rfl rfl rfl (fun _ => e_idxA1 t hk rfl rfl Tryd.underlying100 sz29 rfl (by omega) _) fun a hk => ?_
      refine d3 21 hk rfl (by kernel_rfl) rfl rfl rfl rfl hS (fun w hS => r_load1 (v := W (kc.getD t 0)) hk rfl Tryd.underlying29 rfl (kc_at hS.2 t ht1)) fun a hk => ?_
      refine d0 22 hk rfl (by kernel_rfl) rfl rfl rfl rfl (fun _ => e_add hk rfl rfl (w_add _ _) _) fun a hk => ?_
      refine d0 23 hk rfl (by kernel_rfl) rfl rfl rfl rfl (fun _ => e_move hk rfl _) fun a hk => ?_
      refine d0 24 hk rfl (by kernel_rfl) rfl rfl rfl rfl (fun _ => e_idxA1 t hk rfl rfl Tryd.underlying100 sz29 rfl (by omega) _) fun a hk => ?_
      refine d3 25 hk rfl (by kernel_rfl) rfl rfl rfl rfl hS (fun w hS => r_load (v := W ((sched blk 64).getD t 0)) hk rfl Tryd.underlying29 rfl hS.1 (map_get_w _ t _ ((sched blk 64).getD t 0) (by omega) (by simp [length_sched, ht1]))) fun a hk => ?_
      refine d0 26 hk rfl (by kernel_rfl) rfl rfl rfl rfl (fun _ => e_add hk rfl rfl (w_add _ _) _) fun a hk => ?_
      refine d0 27 hk rfl (by kernel_rfl) rfl rfl rfl rfl (fun _ => e_assign hk rfl _) fun a hk => ?_
      rw [not_eq] at hk
      have hk := hk.sub [(2, .pointer (some ⟨b2, 0, none⟩)), (3, .pointer (some ⟨b3, 0, none⟩)), (4, .slice (some ⟨bp, op, none⟩) mm.length cp), (5, I (64 * k : Nat)), (6, .pointer (some ⟨b6, 0, none⟩)), (7, W r.a), (8, W r.b), (9, W r.c), (10, W r.d), (11, W r.e), (12, W r.f), (13, W r.g), (14, W r.h), (15, I t), (16, W (xOf (kc.getD t 0) ((sched blk 64).getD t 0) r))] ⟨rfl, rfl, rfl, rfl, rfl, rfl, rfl, rfl, rfl, rfl, rfl, rfl, rfl, rfl, rfl, trivial⟩
      have h6 := hS.1
      clear hS
      refine okFin (by kernel_rfl) (hK16 _ _ ?_)
      refine wp_seq_k fun K17 hK17 => ?_
      refine wp_region_lit ?_
      refine ls hk rfl rfl rfl (e_move hk rfl _) fun a hk => ?_
      refine la hk rfl (a_call hk rfl rfl (c_fn hk rfl ok69) (c69 r.a 2 (by decide) (by decide) _) ?_)
      rintro e w ⟨rfl, hE⟩
      refine ⟨_, rfl, fun a hk => ?_⟩
      have h6 := ext_at hE h6
      have h2 := ext_at hE h2
      have h3 := ext_at hE h3
      have hRp := hRp.ext hE
      have hB := ext_trans hB hE
      clear hE
      refine ls hk rfl rfl rfl (e_move hk rfl _) fun a hk => ?_
      refine la hk rfl (a_call hk rfl rfl (c_fn hk rfl ok69) (c69 r.a 13 (by decide) (by decide) _) ?_)
      rintro e w ⟨rfl, hE⟩
      refine ⟨_, rfl, fun a hk => ?_⟩
      have h6 := ext_at hE h6
      have h2 := ext_at hE h2
      have h3 := ext_at hE h3
      have hRp := hRp.ext hE
      have hB := ext_trans hB hE
      clear hE
      refine ls hk rfl rfl rfl (e_xor hk rfl rfl (w_xor _ _) _) fun a hk => ?_
      refine ls hk rfl rfl rfl (e_move hk rfl _) fun a hk => ?_
      refine la hk rfl (a_call hk rfl rfl (c_fn hk rfl ok69) (c69 r.a 22 (by decide) (by decide) _) ?_)
      rintro e w ⟨rfl, hE⟩
      refine ⟨_, rfl, fun a hk => ?_⟩
      have h6 := ext_at hE h6
      have h2 := ext_at hE h2
      have h3 := ext_at hE h3
      have hRp := hRp.ext hE
      have hB := ext_trans hB hE
      clear hE
      refine ls hk rfl rfl rfl (e_xor hk rfl rfl (w_xor _ _) _) fun a hk => ?_
      refine ls hk rfl rfl rfl (e_move hk rfl _) fun a hk => ?_
      refine ls hk rfl rfl rfl (e_move hk rfl _) fun a hk => ?_
      refine ls hk rfl rfl rfl (e_and hk rfl rfl (w_and _ _) _) fun a hk => ?_
      refine ls hk rfl rfl rfl (e_move hk rfl _) fun a hk => ?_
      refine ls hk rfl rfl rfl (e_move hk rfl _) fun a hk => ?_
      refine ls hk rfl rfl rfl (e_and hk rfl rfl (w_and _ _) _) fun a hk => ?_
      refine ls hk rfl rfl rfl (e_xor hk rfl rfl (w_xor _ _) _) fun a hk => ?_
      refine ls hk rfl rfl rfl (e_move hk rfl _) fun a hk => ?_
      refine ls hk rfl rfl rfl (e_move hk rfl _) fun a hk => ?_
      refine ls hk rfl rfl rfl (e_and hk rfl rfl (w_and _ _) _) fun a hk => ?_
      refine ls hk rfl rfl rfl (e_xor hk rfl rfl (w_xor _ _) _) fun a hk => ?_
      refine ls hk rfl rfl rfl (e_add hk rfl rfl (w_add _ _) _) fun a hk => ?_
      refine ls hk rfl rfl rfl (e_assign hk rfl _) fun a hk => ?_
      have hk := hk.sub [(2, .pointer (some ⟨b2, 0, none⟩)), (3, .pointer (some ⟨b3, 0, none⟩)), (4, .slice (some ⟨bp, op, none⟩) mm.length cp), (5, I (64 * k : Nat)), (6, .pointer (some ⟨b6, 0, none⟩)), (7, W r.a), (8, W r.b), (9, W r.c), (10, W r.d), (11, W r.e), (12, W r.f), (13, W r.g), (14, W r.h), (15, I t), (16, W (xOf (kc.getD t 0) ((sched blk 64).getD t 0) r)), (17, W (yOf' r))] ⟨rfl, rfl, rfl, rfl, rfl, rfl, rfl, rfl, rfl, rfl, rfl, rfl, rfl, rfl, rfl, rfl, trivial⟩
      refine lnil (hK17 _ _ ?_)
      refine wp_seq_k fun K18 hK18 => ?_
      refine wp_region_lit ?_
      refine ls hk rfl rfl rfl (e_move hk rfl _) fun a hk => ?_
      refine ls hk rfl rfl rfl (e_assign hk rfl _) fun a hk => ?_
      refine lnil (hK18 _ _ ?_)
      refine wp_seq_k fun K19 hK19 => ?_
      refine wp_region_lit ?_
      refine ls hk rfl rfl rfl (e_move hk rfl _) fun a hk => ?_
      refine ls hk rfl rfl rfl (e_assign hk rfl _) fun a hk => ?_
      refine lnil (hK19 _ _ ?_)
      refine wp_seq_k fun K20 hK20 => ?_
      refine wp_region_lit ?_
      refine ls hk rfl rfl rfl (e_move hk rfl _) fun a hk => ?_
      refine ls hk rfl rfl rfl (e_assign hk rfl _) fun a hk => ?_
      refine lnil (hK20 _ _ ?_)
      refine wp_seq_k fun K21 hK21 => ?_
      refine wp_region_lit ?_
      refine ls hk rfl rfl rfl (e_move hk rfl _) fun a hk => ?_
      refine ls hk rfl rfl rfl (e_move hk rfl _) fun a hk => ?_
      refine ls hk rfl rfl rfl (e_add hk rfl rfl (w_add _ _) _) fun a hk => ?_
      refine ls hk rfl rfl rfl (e_assign hk rfl _) fun a hk => ?_
      refine lnil (hK21 _ _ ?_)
      refine wp_seq_k fun K22 hK22 => ?_
      refine wp_region_lit ?_
      refine ls hk rfl rfl rfl (e_move hk rfl _) fun a hk => ?_
      refine ls hk rfl rfl rfl (e_assign hk rfl _) fun a hk => ?_
      refine lnil (hK22 _ _ ?_)
      refine wp_seq_k fun K23 hK23 => ?_
      refine wp_region_lit ?_
      refine ls hk rfl rfl rfl (e_move hk rfl _) fun a hk => ?_
      refine ls hk rfl rfl rfl (e_assign hk rfl _) fun a hk => ?_
      refine lnil (hK23 _ _ ?_)
      refine wp_seq_k fun K24 hK24 => ?_
      refine wp_region_lit ?_
      refine ls hk rfl rfl rfl (e_move hk rfl _) fun a hk => ?_
      refine ls hk rfl rfl rfl (e_assign hk rfl _) fun a hk => ?_
      refine lnil (hK24 _ _ ?_)
      refine wp_region_lit ?_
      refine ls hk rfl rfl rfl (e_move hk rfl _) fun a hk => ?_
      refine ls hk rfl rfl rfl (e_move hk rfl _) fun a hk => ?_
      refine ls hk rfl rfl rfl (e_add hk rfl rfl (w_add _ _) _) fun a hk => ?_
      refine ls hk rfl rfl rfl (e_assign hk rfl _) fun a hk => ?_
      have hk := hk.sub [(2, .pointer (some ⟨b2, 0, none⟩)), (3, .pointer (some ⟨b3, 0, none⟩)), (4, .slice (some ⟨bp, op, none⟩) mm.length cp), (5, I (64 * k : Nat)), (6, .pointer (some ⟨b6, 0, none⟩)), (7, W (rnd (kc.getD t 0) ((sched blk 64).getD t 0) r).a), (8, W (rnd (kc.getD t 0) ((sched blk 64).getD t 0) r).b), (9, W (rnd (kc.getD t 0) ((sched blk 64).getD t 0) r).c), (10, W (rnd (kc.getD t 0) ((sched blk 64).getD t 0) r).d), (11, W (rnd (kc.getD t 0) ((sched blk 64).getD t 0) r).e), (12, W (rnd (kc.getD t 0) ((sched blk 64).getD t 0) r).f), (13, W (rnd (kc.getD t 0) ((sched blk 64).getD t 0) r).g), (14, W (rnd (kc.getD t 0) ((sched blk 64).getD t 0) r).h), (15, I t)] ⟨rfl, rfl, rfl, rfl, rfl, rfl, rfl, rfl, rfl, rfl, rfl, rfl, rfl, rfl, trivial⟩
      rw [← hr] at hk
      refine lnil (hK15 _ _ ?_)
      refine wp_region_lit ?_
      refine ls hk rfl rfl rfl (e_move hk rfl _) fun a hk => ?_
      refine ls hk rfl rfl rfl (e_add hk rfl rfl (i64 (by omega) (by omega)) _) fun a hk => ?_
      refine ls hk rfl rfl rfl (e_assign hk rfl _) fun a hk => ?_
      refine lnil (show ∃ m : Nat, m < _ ∧ _ from ⟨64 - (t + 1), by omega, t + 1, rfl, by omega, hk.sub _ ⟨rfl, rfl, rfl, rfl, rfl, rfl, rfl, rfl, rfl, rfl, rfl, rfl, rfl, rfl, trivial⟩, hB, ⟨_, h2, hz2⟩, h3, hRp, h6⟩)
    · have ht1 : t = 64 := by have := of_decide_eq_false hb; omega
      subst ht1
      refine wp_exit (hK11 _ _ ?_)
      refine wp_region_lit ?_
      refine ls hk rfl rfl rfl (e_idxA1 0 hk rfl rfl Tryd.underlying30 sz29 rfl (by decide) _) fun a hk => ?_
      refine ls hk rfl rfl rfl (r_load (v := W s.a) hk rfl Tryd.underlying29 rfl h3 rfl) fun a hk => ?_
      refine ls hk rfl rfl rfl (e_move hk rfl _) fun a hk => ?_
      refine ls hk rfl rfl rfl (e_add hk rfl rfl (w_add _ _) _) fun a hk => ?_
      refine ls hk rfl rfl rfl (e_idxA1 1 hk rfl rfl Tryd.underlying30 sz29 rfl (by decide) _) fun a hk => ?_
      refine ls hk rfl rfl rfl (r_load (v := W s.b) hk rfl Tryd.underlying29 rfl h3 rfl) fun a hk => ?_
      refine ls hk rfl rfl rfl (e_move hk rfl _) fun a hk => ?_
      refine ls hk rfl rfl rfl (e_add hk rfl rfl (w_add _ _) _) fun a hk => ?_
      refine ls hk rfl rfl rfl (e_idxA1 2 hk rfl rfl Tryd.underlying30 sz29 rfl (by decide) _) fun a hk => ?_
      refine ls hk rfl rfl rfl (r_load (v := W s.c) hk rfl Tryd.underlying29 rfl h3 rfl) fun a hk => ?_
      refine ls hk rfl rfl rfl (e_move hk rfl _) fun a hk => ?_
      refine ls hk rfl rfl rfl (e_add hk rfl rfl (w_add _ _) _) fun a hk => ?_
      refine ls hk rfl rfl rfl (e_idxA1 3 hk rfl rfl Tryd.underlying30 sz29 rfl (by decide) _) fun a hk => ?_
      refine ls hk rfl rfl rfl (r_load (v := W s.d) hk rfl Tryd.underlying29 rfl h3 rfl) fun a hk => ?_
      refine ls hk rfl rfl rfl (e_move hk rfl _) fun a hk => ?_
      refine ls hk rfl rfl rfl (e_add hk rfl rfl (w_add _ _) _) fun a hk => ?_
      refine ls hk rfl rfl rfl (e_idxA1 4 hk rfl rfl Tryd.underlying30 sz29 rfl (by decide) _) fun a hk => ?_
      refine ls hk rfl rfl rfl (r_load (v := W s.e) hk rfl Tryd.underlying29 rfl h3 rfl) fun a hk => ?_
      refine ls hk rfl rfl rfl (e_move hk rfl _) fun a hk => ?_
      refine ls hk rfl rfl rfl (e_add hk rfl rfl (w_add _ _) _) fun a hk => ?_
      refine ls hk rfl rfl rfl (e_idxA1 5 hk rfl rfl Tryd.underlying30 sz29 rfl (by decide) _) fun a hk => ?_
      refine ls hk rfl rfl rfl (r_load (v := W s.f) hk rfl Tryd.underlying29 rfl h3 rfl) fun a hk => ?_
      refine ls hk rfl rfl rfl (e_move hk rfl _) fun a hk => ?_
      refine ls hk rfl rfl rfl (e_add hk rfl rfl (w_add _ _) _) fun a hk => ?_
      refine ls hk rfl rfl rfl (e_idxA1 6 hk rfl rfl Tryd.underlying30 sz29 rfl (by decide) _) fun a hk => ?_
      refine ls hk rfl rfl rfl (r_load (v := W s.g) hk rfl Tryd.underlying29 rfl h3 rfl) fun a hk => ?_
      refine ls hk rfl rfl rfl (e_move hk rfl _) fun a hk => ?_
      refine ls hk rfl rfl rfl (e_add hk rfl rfl (w_add _ _) _) fun a hk => ?_
      refine ls hk rfl rfl rfl (e_idxA1 7 hk rfl rfl Tryd.underlying30 sz29 rfl (by decide) _) fun a hk => ?_
      refine ls hk rfl rfl rfl (r_load (v := W s.h) hk rfl Tryd.underlying29 rfl h3 rfl) fun a hk => ?_
      refine ls hk rfl rfl rfl (e_move hk rfl _) fun a hk => ?_
      refine ls hk rfl rfl rfl (e_add hk rfl rfl (w_add _ _) _) fun a hk => ?_
      generalize hya : s.a + r.a = ya at hk
      generalize hyb : s.b + r.b = yb at hk
      generalize hyc : s.c + r.c = yc at hk
      generalize hyd : s.d + r.d = yd at hk
      generalize hye : s.e + r.e = ye at hk
      generalize hyf : s.f + r.f = yf at hk
      generalize hyg : s.g + r.g = yg at hk
      generalize hyh : s.h + r.h = yh at hk
      refine ls hk rfl rfl rfl (e_buildA (cells := #[W ya, W yb, W yc, W yd, W ye, W yf, W yg, W yh]) hk rfl zr30 Tryd.underlying30 sz29 (fill8 _ _ _ _ _ _ _ _ rfl rfl rfl rfl rfl rfl rfl rfl) _) fun a hk => ?_
      refine la hk rfl (a_storeB hk rfl rfl (words_one [ya, yb, yc, yd, ye, yf, yg, yh]) sz30 h3 rfl fun a w hk W21 => ?_)
      have hB := W21.below hB hg3
      have h2 := W21.keep hne h2
      have hRp := rd_wrote hRp W21 (by intro _ _ h; cases h; exact hnp _ _ rfl)
      have h3 : w.heap[b3]? = some (.cells ((hst (k + 1) s8init mm).list.map W).toArray 30 (0, 0)) := by
        have h := W21.at_
        rw [hst_succ, ← hblk, hs, compress, hr, S8.add, hya, hyb, hyc, hyd, hye, hyf, hyg, hyh]; exact h
      clear W21
      refine lnil (hK8 _ _ ?_)
      refine wp_region_lit ?_
      refine ls hk rfl rfl rfl (e_move hk rfl _) fun a hk => ?_
      refine ls hk rfl rfl rfl (e_add (q := ((64 * (k + 1) : Nat) : Int)) hk rfl rfl (by rw [i64 (by omega) (by omega)]; omega) _) fun a hk => ?_
      refine ls hk rfl rfl rfl (e_assign hk rfl _) fun a hk => ?_
      refine lnil (show ∃ m : Nat, m < _ ∧ _ from ⟨mm.length - 64 * (k + 1), by omega, k + 1, rfl, by omega, hk.sub _ ⟨rfl, rfl, rfl, rfl, trivial⟩, hB, ⟨_, h2, hz2⟩, h3, hRp⟩)
  · have hge : 64 * k = mm.length := by have := of_decide_eq_false hb; omega
    have hkq : mm.length / 64 = k := by omega
    generalize hs : hst k s8init mm = s at h3
    refine wp_exit (hK4 _ _ ?_)
    refine wp_seq_k fun K25 hK25 => ?_
    refine wp_region_lit ?_
    refine la hk rfl (a_alloc hk rfl zr24 fun a w b18 hk G18 => ?_)
    have n218 : b2 ≠ b18 := G18.ne h2
    have n318 : b3 ≠ b18 := G18.ne h3
    have hg18 : w0.heap.size ≤ b18 := Nat.le_trans hB.size G18.ge
    have hB := ext_trans hB G18.ext
    have h2 := ext_at G18.ext h2
    have h3 := ext_at G18.ext h3
    have h18 := G18.at_
    clear G18
    refine lnil (hK25 _ _ ?_)
    refine wp_seq_k fun K26 hK26 => ?_
    refine wp_seq_k fun K27 hK27 => ?_
    refine wp_region_lit ?_
    refine ls hk rfl rfl rfl (e_assign hk rfl _) fun a hk => ?_
    refine lnil (hK27 _ _ ?_)
    refine wp_block ?_
    refine loopN (fun n a w => ∃ i : Nat, n = 32 - i ∧ i ≤ 32 ∧ Kn a 164 [(2, .pointer (some ⟨b2, 0, none⟩)), (3, .pointer (some ⟨b3, 0, none⟩)), (18, .pointer (some ⟨b18, 0, none⟩)), (19, I i)] ∧ Below w0.heap.size w0 w ∧ (∃ z, w.heap[b2]? = some (.cells z 24 (0, 0)) ∧ z.size = 32) ∧ w.heap[b3]? = some (.cells ((s).list.map W).toArray 30 (0, 0)) ∧ w.heap[b18]? = some (.cells (((out32 s).take i ++ List.replicate (32 - i) 0).map B).toArray 24 (0, 0))) (32) ?_ fun n a w hI => ?_
    · exact ⟨0, rfl, by omega, hk.sub _ ⟨rfl, rfl, rfl, rfl, trivial⟩, hB, ⟨_, h2, hz2⟩, h3, h18⟩
    clear hB h2 h3 h18 hz2
    obtain ⟨i, rfl, hi, hk, hB, ⟨z2, h2, hz2⟩, h3, h18⟩ := hI
    refine wp_seq_k fun K28 hK28 => ?_
    refine wp_seq_k fun K29 hK29 => ?_
    refine wp_region_lit ?_
    refine ls hk rfl rfl rfl (e_move hk rfl _) fun a hk => ?_
    refine ls hk rfl rfl rfl (e_lss hk rfl rfl rfl _) fun a hk => ?_
    refine lnil (hK29 _ _ ?_)
    refine cdB hk rfl (fun hb => ?_) (fun hb => ?_)
    · have hi32 : i < 32 := by have := of_decide_eq_true hb; omega
      refine wp_skip (hK28 _ _ ?_)
      refine wp_seq_k fun K30 hK30 => ?_
      refine wp_block ?_
      refine wp_region_lit ?_
      refine ls hk rfl rfl rfl (e_move hk rfl _) fun a hk => ?_
      refine ls hk rfl rfl rfl (e_move hk rfl _) fun a hk => ?_
      refine ls hk rfl rfl rfl (e_quo (q := ((i / 4 : Nat) : Int)) hk rfl rfl (by decide) (by rw [show ((i : Int)).tdiv 4 = ((i / 4 : Nat) : Int) from i_quo i 4, i64 (by omega) (by omega)]) _) fun a hk => ?_
      refine ls hk rfl rfl rfl (e_idxA1 (i / 4) hk rfl rfl Tryd.underlying30 sz29 rfl (by omega) _) fun a hk => ?_
      refine ls hk rfl rfl rfl (r_load (v := W (s.list.getD (i / 4) 0)) hk rfl Tryd.underlying29 rfl h3 (list_at _ _ (by omega))) fun a hk => ?_
      refine ls hk rfl rfl rfl (e_move hk rfl _) fun a hk => ?_
      refine ls hk rfl rfl rfl (e_rem (q := ((i % 4 : Nat) : Int)) hk rfl rfl (by decide) (i_rem i 4) _) fun a hk => ?_
      refine ls hk rfl rfl rfl (e_mul (q := ((8 * (i % 4) : Nat) : Int)) hk rfl rfl (by rw [i64 (by omega) (by omega)]; omega) _) fun a hk => ?_
      refine ls hk rfl rfl rfl (e_sub (q := ((24 - 8 * (i % 4) : Nat) : Int)) hk rfl rfl (by rw [i64 (by omega) (by omega)]; omega) _) fun a hk => ?_
      refine ls hk rfl rfl rfl (e_shr hk rfl rfl (by omega) (w_shr _ (24 - 8 * (i % 4)) (by omega)) _) fun a hk => ?_
      refine ls hk rfl rfl rfl (e_conv hk rfl Tryd.underlying29 Tryd.underlying5 (w_b _) _) fun a hk => ?_
      refine ls hk rfl rfl rfl (e_idxA1 i hk rfl rfl Tryd.underlying24 sz5 rfl (by omega) _) fun a hk => ?_
      refine la hk rfl (a_store (v := B (outB s i)) hk rfl rfl rfl sz5 h18 (by simp [length_out32]; omega) fun a w hk W15 => ?_)
      have hB := W15.below hB hg18
      have h2 := W15.keep n218 h2
      have h3 := W15.keep n318 h3
      have h18 : w.heap[b18]? = some (.cells (((out32 s).take (i + 1) ++ List.replicate (32 - (i + 1)) 0).map B).toArray 24 (0, 0)) := by
        have h := W15.at_
        rw [show 32 - i = (31 - i) + 1 by omega, List.replicate_succ, show (out32 s).take i ++ 0 :: List.replicate (31 - i) 0 = (out32 s).take i ++ [0] ++ List.replicate (31 - i) 0 by simp,
          bytes_set _ _ _ _ _ (by simp [length_out32]; omega)] at h
        rw [h, out32_take _ _ hi32, show 32 - (i + 1) = 31 - i by omega]
      clear W15
      refine lnil (hK30 _ _ ?_)
      refine wp_region_lit ?_
      refine ls hk rfl rfl rfl (e_move hk rfl _) fun a hk => ?_
      refine ls hk rfl rfl rfl (e_add hk rfl rfl (i64 (by omega) (by omega)) _) fun a hk => ?_
      refine ls hk rfl rfl rfl (e_assign hk rfl _) fun a hk => ?_
      refine lnil (show ∃ m : Nat, m < _ ∧ _ from ⟨32 - (i + 1), by omega, i + 1, rfl, by omega, hk.sub _ ⟨rfl, rfl, rfl, rfl, trivial⟩, hB, ⟨_, h2, hz2⟩, h3, h18⟩)
    · have hi32 : i = 32 := by have := of_decide_eq_false hb; omega
      subst hi32
      rw [List.take_of_length_le (by rw [length_out32]; omega), Nat.sub_self, List.replicate_zero, List.append_nil] at h18
      refine wp_exit (hK26 _ _ ?_)
      refine wp_seq_k fun K31 hK31 => ?_
      refine wp_region_lit ?_
      refine ls hk rfl rfl rfl (r_loadB hk rfl h18 Tryd.underlying24 rfl (by rw [sz24]; simp [length_out32])) fun a hk => ?_
      refine la hk rfl (a_storeB hk rfl rfl (bytes_oneA _) (by rw [sz24]; simp [length_out32]) h2 (by simp [length_out32, hz2]) fun a w hk W27 => ?_)
      refine lnil (hK31 _ _ ?_)
      refine wp_ret ?_
      exact retA hk rfl rfl W27.at_ Tryd.underlying24 rfl (by rw [sz24]; simp [length_out32]) ⟨by rw [← hs, ← hkq, ← hmm]; rfl, W27.below hB hg2⟩

end Go.Proofs.YtidfbboalbchiaaDoor

namespace Go.Proofs.YtidfbboalbchiaaDoor
open Go Go.RowKit

theorem fill_get (k : List UInt8) (i : Nat) (hi : i < (fill64 k).length) : (fill64 k)[i] = k.getD i 0 := by
  unfold fill64 at hi ⊢
  rw [List.getElem_append]
  split
  · rename_i h; simp [h]
  · rename_i h; simp [List.getElem?_eq_none (Nat.le_of_not_lt h)]
theorem take_map (p : List UInt8) (x : UInt8) (i : Nat) (h : i < p.length) : (p.take (i + 1)).map (· ^^^ x) = (p.take i).map (· ^^^ x) ++ [p[i] ^^^ x] := by
  rw [List.take_add_one, List.getElem?_eq_getElem h]
  simp only [Option.toList_some, List.map_append, List.map_cons, List.map_nil]

set_option maxRecDepth 4000 in
set_option maxHeartbeats 1000000 in
theorem c72 (key : List UInt8) (x : UInt8) (w0 : World) (hGR : GR w0) (hl : key.length ≤ 1000000000) :
    Calls Tryd.prog 72 #[Str key, B x] w0 fun e w' => ∃ ad c, e = .returned (.slice ad 64 c) ∧ w'.ownsRow w0.heap.size 5 1 (.slice ad 64 c) 64 ((key64 key x).map B) ∧ Ext w0 w' := by
  refine start 35 Tryd.func72 rfl rfl rfl fun a hk => ?_
  refine wp_seq_k fun K1 hK1 => ?_
  refine wp_region_lit ?_
  refine ls hk rfl rfl rfl (e_assign hk rfl _) fun a hk => ?_
  have hB : Ext w0 w0 := Below.refl _ _
  refine lnil (hK1 _ _ ?_)
  refine wp_seq_k fun K2 hK2 => ?_
  refine wp_region_lit ?_
  refine ls hk rfl rfl rfl (e_move hk rfl _) fun a hk => ?_
  refine ls hk rfl rfl rfl (e_assign hk rfl _) fun a hk => ?_
  refine lnil (hK2 _ _ ?_)
  refine wp_seq_k fun K3 hK3 => ?_
  have hJ3 : ∀ (a : Act) (w : World), Kn a 35 [(1, B x), (5, Str (if key.length > 64 then sha key else key))] ∧ Ext w0 w → K3 a w := by
    intro a w hJ
    refine hK3 _ _ ?_
    refine wp_seq_k fun K4 hK4 => ?_
    generalize hke : (if key.length > 64 then sha key else key) = k₁ at hJ
    have hk1 : k₁.length ≤ 64 := by rw [← hke]; exact k1_le key
    clear hB
    obtain ⟨hk, hB⟩ := hJ
    have hp64 : (fill64 k₁).length = 64 := length_fill64 k₁ hk1
    refine wp_region_lit ?_
    refine ls hk rfl rfl rfl (e_assign hk rfl _) fun a hk => ?_
    refine lnil (hK4 _ _ ?_)
    refine wp_seq_k fun K5 hK5 => ?_
    refine wp_seq_k fun K6 hK6 => ?_
    refine wp_region_lit ?_
    refine ls hk rfl rfl rfl (e_assign hk rfl _) fun a hk => ?_
    refine lnil (hK6 _ _ ?_)
    refine wp_block ?_
    refine loopN (fun n a w => ∃ (i : Nat) (ad : Option Addr) (c : Nat), n = 64 - i ∧ i ≤ 64 ∧ Kn a 35 [(1, B x), (5, Str k₁), (6, .slice ad i c), (7, I i)] ∧ Ext w0 w ∧ w0.heap.size ≤ w.heap.size ∧ w.ownsRow w0.heap.size 5 1 (.slice ad i c) i (((fill64 k₁).take i).map (· ^^^ x) |>.map B)) (64) ?_ fun n a w hI => ?_
    · exact ⟨0, none, 0, rfl, by omega, hk.sub _ ⟨rfl, rfl, rfl, rfl, trivial⟩, hB, hB.size, own_nil⟩
    clear hB
    obtain ⟨i, ad, c, rfl, hi, hk, hB, hCC, hown⟩ := hI
    refine wp_seq_k fun K7 hK7 => ?_
    refine wp_seq_k fun K8 hK8 => ?_
    refine wp_region_lit ?_
    refine ls hk rfl rfl rfl (e_move hk rfl _) fun a hk => ?_
    refine ls hk rfl rfl rfl (e_lss hk rfl rfl rfl _) fun a hk => ?_
    refine lnil (hK8 _ _ ?_)
    refine cdB hk rfl (fun hb => ?_) (fun hb => ?_)
    · have hil : i < 64 := by have := of_decide_eq_true hb; omega
      have hif : i < (fill64 k₁).length := by omega
      refine wp_skip (hK7 _ _ ?_)
      refine wp_seq_k fun K9 hK9 => ?_
      refine wp_block ?_
      refine wp_seq_k fun K10 hK10 => ?_
      refine wp_region_lit ?_
      refine ls hk rfl rfl rfl (e_assign hk rfl _) fun a hk => ?_
      refine lnil (hK10 _ _ ?_)
      refine wp_seq_k fun K11 hK11 => ?_
      have hJ11 : ∀ (a : Act) (w : World), Kn a 35 [(1, B x), (5, Str k₁), (6, .slice ad i c), (7, I i), (8, B (fill64 k₁)[i])] ∧ Ext w0 w ∧ w0.heap.size ≤ w.heap.size ∧ w.ownsRow w0.heap.size 5 1 (.slice ad i c) i (((fill64 k₁).take i).map (· ^^^ x) |>.map B) → K11 a w := by
        intro a w ⟨hk, hB, hCC, hown⟩
        refine hK11 _ _ ?_
        refine wp_region_lit ?_
        refine ls hk rfl rfl rfl (e_move hk rfl _) fun a hk => ?_
        refine ls hk rfl rfl rfl (e_move hk rfl _) fun a hk => ?_
        refine ls hk rfl rfl rfl (e_move hk rfl _) fun a hk => ?_
        refine ls hk rfl rfl rfl (e_xor hk rfl rfl (b_xor _ _) _) fun a hk => ?_
        refine la hk rfl (a_lit (cells := #[B ((fill64 k₁)[i] ^^^ x)]) (zv := .int .u8 0) (sz := 1) (by_ := 1) hk rfl rfl Tryd.underlying22 el5 (by decide) (by decide) (lit1 _ _ rfl) rfl fun a w bl hk GL => ?_)
        have hB := ext_trans hB GL.ext
        have hown := own_ext hown GL.ext
        have hRd := lit_byte _ GL
        have hCC := Nat.le_trans hCC GL.ext.size
        clear GL
        refine la hk rfl (a_app hk rfl rfl hown rfl hRd (bytes_one _) Tryd.underlying22 el5 rfl (by decide) (by omega) (by omega) hCC fun a w v hk hown' hKp => ?_)
        have hB := kept_below hKp hB hown (Nat.le_refl _) hCC
        have hCC := Nat.le_trans hCC hKp.size
        clear hown hRd hKp
        obtain ⟨ad, c, rfl, _, _⟩ := Rd.of_own hown'
        have hown : w.ownsRow w0.heap.size 5 1 (.slice ad (i + 1) c) (i + 1) ((((fill64 k₁).take (i + 1)).map (· ^^^ x)).map B) := by
          rw [take_map _ _ _ hif, List.map_append]; exact hown'
        clear hown'
        refine ls hk rfl rfl rfl (e_assign hk rfl _) fun a hk => ?_
        refine lnil (hK9 _ _ ?_)
        refine wp_region_lit ?_
        refine ls hk rfl rfl rfl (e_move hk rfl _) fun a hk => ?_
        refine ls hk rfl rfl rfl (e_add hk rfl rfl (i64 (by omega) (by omega)) _) fun a hk => ?_
        refine ls hk rfl rfl rfl (e_assign hk rfl _) fun a hk => ?_
        refine lnil (show ∃ m : Nat, m < _ ∧ _ from ⟨64 - (i + 1), by omega, i + 1, _, _, rfl, by omega, hk.sub _ ⟨rfl, rfl, rfl, rfl, trivial⟩, hB, hCC, hown⟩)
      refine wp_seq_k fun K12 hK12 => ?_
      refine wp_region_lit ?_
      refine ls hk rfl rfl rfl (e_move hk rfl _) fun a hk => ?_
      refine ls hk rfl rfl rfl (e_move hk rfl _) fun a hk => ?_
      refine ls hk rfl rfl rfl (e_lenStr hk rfl Tryd.underlying9 _) fun a hk => ?_
      refine ls hk rfl rfl rfl (e_lss hk rfl rfl rfl _) fun a hk => ?_
      refine lnil (hK12 _ _ ?_)
      refine cdB hk rfl (fun hb => ?_) (fun hb => ?_)
      · have hlt : i < k₁.length := by have := of_decide_eq_true hb; omega
        refine wp_region_lit ?_
        refine ls hk rfl rfl rfl (e_move hk rfl _) fun a hk => ?_
        refine ls hk rfl rfl rfl (e_move hk rfl _) fun a hk => ?_
        refine ls hk rfl rfl rfl (e_idxStr (c := (fill64 k₁)[i]) hk rfl rfl Tryd.underlying9 (by omega) (by rw [fill_get k₁ i hif]; simp [hlt]) _) fun a hk => ?_
        refine ls hk rfl rfl rfl (e_assign hk rfl _) fun a hk => ?_
        refine lnil (hJ11 _ _ ⟨by first | exact hk.sub _ ⟨rfl, rfl, rfl, rfl, rfl, trivial⟩ | (rw [hv]; exact hk.sub _ ⟨rfl, rfl, rfl, rfl, rfl, trivial⟩), hB, hCC, hown⟩)
      · have hge : ¬ i < k₁.length := by have := of_decide_eq_false hb; omega
        have hv : (fill64 k₁)[i] = 0 := by rw [fill_get k₁ i hif]; simp [List.getElem?_eq_none (Nat.le_of_not_lt hge)]
        refine wp_skip (hJ11 _ _ ⟨by first | exact hk.sub _ ⟨rfl, rfl, rfl, rfl, rfl, trivial⟩ | (rw [hv]; exact hk.sub _ ⟨rfl, rfl, rfl, rfl, rfl, trivial⟩), hB, hCC, hown⟩)
    · have hil : i = 64 := by have := of_decide_eq_false hb; omega
      subst hil
      rw [List.take_of_length_le (by omega)] at hown
      refine wp_exit (hK5 _ _ ?_)
      refine wp_seq_k fun K13 hK13 => ?_
      refine wp_region_lit ?_
      refine ls hk rfl rfl rfl (e_move hk rfl _) fun a hk => ?_
      refine ls hk rfl rfl rfl (e_assign hk rfl _) fun a hk => ?_
      refine lnil (hK13 _ _ ?_)
      refine wp_ret ?_
      exact ret1 hk rfl rfl ⟨ad, c, rfl, by unfold key64; rw [hke]; exact hown, hB⟩
  refine wp_seq_k fun K14 hK14 => ?_
  refine wp_region_lit ?_
  refine ls hk rfl rfl rfl (e_move hk rfl _) fun a hk => ?_
  refine ls hk rfl rfl rfl (e_lenStr hk rfl Tryd.underlying9 _) fun a hk => ?_
  refine ls hk rfl rfl rfl (e_gtr hk rfl rfl rfl _) fun a hk => ?_
  refine lnil (hK14 _ _ ?_)
  refine cdB hk rfl (fun hb => ?_) (fun hb => ?_)
  · have hlong : key.length > 64 := by have := of_decide_eq_true hb; omega
    refine wp_region_lit ?_
    refine ls hk rfl rfl rfl (e_move hk rfl _) fun a hk => ?_
    refine la hk rfl (a_bytes hk rfl rfl Tryd.underlying9 Tryd.underlying22 Tryd.underlying5 fun a w bb cc hk hgb hE hRb => ?_)
    have hB := ext_trans hB hE
    refine la hk rfl (a_call hk rfl rfl (c_fn hk rfl ok24) (c24 key _ _ _ hRb (hGR.ext hB) (by omega)) ?_)
    rintro e w ⟨rfl, hE⟩
    refine ⟨_, rfl, fun a hk => ?_⟩
    have hB := ext_trans hB hE
    refine la hk rfl (a_call hk rfl rfl (c_fn hk rfl ok32) (c32 (sha key) _ (length_sha _)) ?_)
    rintro e w ⟨rfl, hE⟩
    refine ⟨_, rfl, fun a hk => ?_⟩
    have hB := ext_trans hB hE
    refine ls hk rfl rfl rfl (e_assign hk rfl _) fun a hk => ?_
    refine lnil (hJ3 _ _ ⟨by first | (rw [if_pos hlong]; exact hk.sub _ ⟨rfl, rfl, trivial⟩) | (rw [if_neg hshort]; exact hk.sub _ ⟨rfl, rfl, trivial⟩), hB⟩)
  · have hshort : ¬ key.length > 64 := by have := of_decide_eq_false hb; omega
    refine wp_skip (hJ3 _ _ ⟨by first | (rw [if_pos hlong]; exact hk.sub _ ⟨rfl, rfl, trivial⟩) | (rw [if_neg hshort]; exact hk.sub _ ⟨rfl, rfl, trivial⟩), hB⟩)

theorem length_key64 (key : List UInt8) (x : UInt8) : (key64 key x).length = 64 := by
  show (pad64 _ x).length = 64
  exact length_pad64 _ _ (k1_le key)

set_option maxRecDepth 4000 in
set_option maxHeartbeats 1000000 in
theorem c31 (key text : List UInt8) (w0 : World) (hGR : GR w0) (hl : key.length ≤ 100000000) (ht : text.length ≤ 100000000) :
    Calls Tryd.prog 31 #[Str key, Str text] w0 fun e w' => e = .returned (Str (mac key text)) ∧ Ext w0 w' := by
  refine start 22 Tryd.func31 rfl rfl rfl fun a hk => ?_
  refine wp_seq_k fun K1 hK1 => ?_
  refine wp_region_lit ?_
  refine ls hk rfl rfl rfl (e_assign hk rfl _) fun a hk => ?_
  have hB : Ext w0 w0 := Below.refl _ _
  refine lnil (hK1 _ _ ?_)
  refine wp_seq_k fun K2 hK2 => ?_
  refine wp_region_lit ?_
  refine ls hk rfl rfl rfl (e_move hk rfl _) fun a hk => ?_
  refine la hk rfl (a_call hk rfl rfl (c_fn hk rfl ok72) (c72 key 54 _ (hGR.ext hB) (by omega)) ?_)
  rintro e w ⟨ad, c, rfl, hown, hE⟩
  refine ⟨_, rfl, fun a hk => ?_⟩
  refine ls hk rfl rfl rfl (e_assign hk rfl _) fun a hk => ?_
  refine lnil (hK2 _ _ ?_)
  refine wp_seq_k fun K3 hK3 => ?_
  refine wp_region_lit ?_
  refine ls hk rfl rfl rfl (e_move hk rfl _) fun a hk => ?_
  refine ls hk rfl rfl rfl (e_move hk rfl _) fun a hk => ?_
  refine la hk rfl (a_appStr hk rfl rfl hown rfl Tryd.underlying22 Tryd.underlying9 el5 (by omega) hE.size fun a w v hk hown' hKp => ?_)
  have hB := kept_below hKp hE hown (Nat.le_refl _) hE.size
  obtain ⟨ad5, c5, rfl, _, hR5⟩ := Rd.of_own hown'
  rw [← List.map_append] at hR5
  have hm : 64 + text.length = (key64 key 54 ++ text).length := by rw [List.length_append, length_key64]
  rw [hm] at hk hR5
  clear hown hown' hKp hE
  refine ls hk rfl rfl rfl (e_assign hk rfl _) fun a hk => ?_
  refine lnil (hK3 _ _ ?_)
  refine wp_seq_k fun K4 hK4 => ?_
  refine wp_region_lit ?_
  refine ls hk rfl rfl rfl (e_move hk rfl _) fun a hk => ?_
  refine la hk rfl (a_call hk rfl rfl (c_fn hk rfl ok72) (c72 key 92 _ (hGR.ext hB) (by omega)) ?_)
  rintro e w ⟨ad, c, rfl, hown, hE⟩
  refine ⟨_, rfl, fun a hk => ?_⟩
  have hR5 := hR5.ext hE
  have hown := own_mono hown hB.size
  have hB := ext_trans hB hE
  refine ls hk rfl rfl rfl (e_assign hk rfl _) fun a hk => ?_
  refine lnil (hK4 _ _ ?_)
  refine wp_seq_k fun K5 hK5 => ?_
  refine wp_region_lit ?_
  refine ls hk rfl rfl rfl (e_move hk rfl _) fun a hk => ?_
  refine ls hk rfl rfl rfl (e_move hk rfl _) fun a hk => ?_
  refine la hk rfl (a_call hk rfl rfl (c_fn hk rfl ok24) (c24 (key64 key 54 ++ text) _ _ _ hR5 (hGR.ext hB) (by rw [← hm]; omega)) ?_)
  rintro e w ⟨rfl, hE⟩
  refine ⟨_, rfl, fun a hk => ?_⟩
  have hB := ext_trans hB hE
  have hown := own_ext hown hE
  refine la hk rfl (a_call hk rfl rfl (c_fn hk rfl ok32) (c32 (sha (key64 key 54 ++ text)) _ (length_sha _)) ?_)
  rintro e w ⟨rfl, hE⟩
  refine ⟨_, rfl, fun a hk => ?_⟩
  have hB := ext_trans hB hE
  have hown := own_ext hown hE
  refine la hk rfl (a_appStr hk rfl rfl hown rfl Tryd.underlying22 Tryd.underlying9 el5 (by rw [length_sha]; decide) hB.size fun a w v hk hown' hKp => ?_)
  have hB := kept_below hKp hB hown (Nat.le_refl _) hB.size
  obtain ⟨ad6, c6, rfl, _, hR6⟩ := Rd.of_own hown'
  rw [← List.map_append] at hR6
  have hm2 : 64 + (sha (key64 key 54 ++ text)).length = (key64 key 92 ++ sha (key64 key 54 ++ text)).length := by rw [List.length_append, length_key64]
  rw [hm2] at hk hR6
  clear hown hown' hKp hE
  refine ls hk rfl rfl rfl (e_assign hk rfl _) fun a hk => ?_
  refine lnil (hK5 _ _ ?_)
  refine wp_seq_k fun K6 hK6 => ?_
  refine wp_region_lit ?_
  refine ls hk rfl rfl rfl (e_move hk rfl _) fun a hk => ?_
  refine la hk rfl (a_call hk rfl rfl (c_fn hk rfl ok24) (c24 (key64 key 92 ++ sha (key64 key 54 ++ text)) _ _ _ hR6 (hGR.ext hB) (by rw [← hm2, length_sha]; decide)) ?_)
  rintro e w ⟨rfl, hE⟩
  refine ⟨_, rfl, fun a hk => ?_⟩
  have hB := ext_trans hB hE
  refine la hk rfl (a_call hk rfl rfl (c_fn hk rfl ok32) (c32 (sha (key64 key 92 ++ sha (key64 key 54 ++ text))) _ (length_sha _)) ?_)
  rintro e w ⟨rfl, hE⟩
  refine ⟨_, rfl, fun a hk => ?_⟩
  have hB := ext_trans hB hE
  refine ls hk rfl rfl rfl (e_assign hk rfl _) fun a hk => ?_
  refine lnil (hK6 _ _ ?_)
  refine wp_ret ?_
  exact ret1 hk rfl rfl ⟨rfl, hB⟩

set_option maxRecDepth 4000 in
set_option maxHeartbeats 1000000 in
theorem c5 (s t : List UInt8) (w0 : World) (hG : GH w0) (hGR : GR w0) : Calls Tryd.prog 5 #[Str s, Str t] w0 fun e w' => e = .returned (.bool true) ∧ Ext w0 w' := by
  rcases (by omega : s.length > 400 ∨ (s.length ≤ 400 ∧ t.length > 400) ∨ (s.length ≤ 400 ∧ t.length ≤ 400)) with hc | hc | hc
  · refine start 26 Tryd.func5 rfl rfl rfl fun a hk => ?_
    refine wp_seq_k fun K1 hK1 => ?_
    refine wp_region_lit ?_
    refine ls hk rfl rfl rfl (e_assign hk rfl _) fun a hk => ?_
    refine lnil (hK1 _ _ ?_)
    refine wp_seq_k fun K2 hK2 => ?_
    have hB : Ext w0 w0 := Below.refl _ _
    refine wp_region_lit ?_
    refine la hk rfl (a_call hk rfl rfl (c_fn (vs := []) hk rfl ok22) (c22 _ (hG.ext hB)) ?_)
    rintro e w ⟨rfl, hE⟩
    refine ⟨_, rfl, fun a hk => ?_⟩
    have hB := ext_trans hB hE
    refine ls hk rfl rfl rfl (e_assign hk rfl _) fun a hk => ?_
    refine lnil (hK2 _ _ ?_)
    refine wp_seq_k fun K3 hK3 => ?_
    refine wp_seq_k fun K4 hK4 => ?_
    refine wp_region_lit ?_
    refine ls hk rfl rfl rfl (e_move hk rfl _) fun a hk => ?_
    refine ls hk rfl rfl rfl (e_lenStr hk rfl Tryd.underlying9 _) fun a hk => ?_
    refine ls hk rfl rfl rfl (e_gtr (b := true) hk rfl rfl (decide_eq_true (by omega)) _) fun a hk => ?_
    refine ls hk rfl rfl rfl (e_move hk rfl _) fun a hk => ?_
    refine lno hk rfl rfl rfl fun a hk => ?_
    refine lno hk rfl rfl rfl fun a hk => ?_
    refine lno hk rfl rfl rfl fun a hk => ?_
    refine ls hk rfl rfl rfl (e_pickT hk rfl rfl _) fun a hk => ?_
    refine lnil (hK4 _ _ ?_)
    refine cdT hk rfl ?_
    refine wp_seq_k fun K5 hK5 => ?_
    refine wp_region_lit ?_
    refine ls hk rfl rfl rfl (e_move hk rfl _) fun a hk => ?_
    refine ls hk rfl rfl rfl (e_assign hk rfl _) fun a hk => ?_
    refine lnil (hK5 _ _ ?_)
    refine wp_ret ?_
    simp only [then_ret]
    exact ret1 hk rfl rfl ⟨rfl, hB⟩
  · refine start 26 Tryd.func5 rfl rfl rfl fun a hk => ?_
    refine wp_seq_k fun K1 hK1 => ?_
    refine wp_region_lit ?_
    refine ls hk rfl rfl rfl (e_assign hk rfl _) fun a hk => ?_
    refine lnil (hK1 _ _ ?_)
    refine wp_seq_k fun K2 hK2 => ?_
    have hB : Ext w0 w0 := Below.refl _ _
    refine wp_region_lit ?_
    refine la hk rfl (a_call hk rfl rfl (c_fn (vs := []) hk rfl ok22) (c22 _ (hG.ext hB)) ?_)
    rintro e w ⟨rfl, hE⟩
    refine ⟨_, rfl, fun a hk => ?_⟩
    have hB := ext_trans hB hE
    refine ls hk rfl rfl rfl (e_assign hk rfl _) fun a hk => ?_
    refine lnil (hK2 _ _ ?_)
    refine wp_seq_k fun K3 hK3 => ?_
    refine wp_seq_k fun K4 hK4 => ?_
    refine wp_region_lit ?_
    refine ls hk rfl rfl rfl (e_move hk rfl _) fun a hk => ?_
    refine ls hk rfl rfl rfl (e_lenStr hk rfl Tryd.underlying9 _) fun a hk => ?_
    refine ls hk rfl rfl rfl (e_gtr (b := false) hk rfl rfl (decide_eq_false (by omega)) _) fun a hk => ?_
    refine ls hk rfl rfl rfl (e_move hk rfl _) fun a hk => ?_
    refine ls hk rfl rfl rfl (e_move hk rfl _) fun a hk => ?_
    refine ls hk rfl rfl rfl (e_lenStr hk rfl Tryd.underlying9 _) fun a hk => ?_
    refine ls hk rfl rfl rfl (e_gtr (b := true) hk rfl rfl (decide_eq_true (by omega)) _) fun a hk => ?_
    refine ls hk rfl rfl rfl (e_pickF hk rfl rfl _) fun a hk => ?_
    refine lnil (hK4 _ _ ?_)
    refine cdT hk rfl ?_
    refine wp_seq_k fun K5 hK5 => ?_
    refine wp_region_lit ?_
    refine ls hk rfl rfl rfl (e_move hk rfl _) fun a hk => ?_
    refine ls hk rfl rfl rfl (e_assign hk rfl _) fun a hk => ?_
    refine lnil (hK5 _ _ ?_)
    refine wp_ret ?_
    simp only [then_ret]
    exact ret1 hk rfl rfl ⟨rfl, hB⟩
  · refine start 26 Tryd.func5 rfl rfl rfl fun a hk => ?_
    refine wp_seq_k fun K1 hK1 => ?_
    refine wp_region_lit ?_
    refine ls hk rfl rfl rfl (e_assign hk rfl _) fun a hk => ?_
    refine lnil (hK1 _ _ ?_)
    refine wp_seq_k fun K2 hK2 => ?_
    have hB : Ext w0 w0 := Below.refl _ _
    refine wp_region_lit ?_
    refine la hk rfl (a_call hk rfl rfl (c_fn (vs := []) hk rfl ok22) (c22 _ (hG.ext hB)) ?_)
    rintro e w ⟨rfl, hE⟩
    refine ⟨_, rfl, fun a hk => ?_⟩
    have hB := ext_trans hB hE
    refine ls hk rfl rfl rfl (e_assign hk rfl _) fun a hk => ?_
    refine lnil (hK2 _ _ ?_)
    refine wp_seq_k fun K3 hK3 => ?_
    refine wp_seq_k fun K4 hK4 => ?_
    refine wp_region_lit ?_
    refine ls hk rfl rfl rfl (e_move hk rfl _) fun a hk => ?_
    refine ls hk rfl rfl rfl (e_lenStr hk rfl Tryd.underlying9 _) fun a hk => ?_
    refine ls hk rfl rfl rfl (e_gtr (b := false) hk rfl rfl (decide_eq_false (by omega)) _) fun a hk => ?_
    refine ls hk rfl rfl rfl (e_move hk rfl _) fun a hk => ?_
    refine ls hk rfl rfl rfl (e_move hk rfl _) fun a hk => ?_
    refine ls hk rfl rfl rfl (e_lenStr hk rfl Tryd.underlying9 _) fun a hk => ?_
    refine ls hk rfl rfl rfl (e_gtr (b := false) hk rfl rfl (decide_eq_false (by omega)) _) fun a hk => ?_
    refine ls hk rfl rfl rfl (e_pickF hk rfl rfl _) fun a hk => ?_
    refine lnil (hK4 _ _ ?_)
    refine cdF hk rfl ?_
    refine wp_skip (hK3 _ _ ?_)
    refine wp_seq_k fun K5 hK5 => ?_
    refine wp_region_lit ?_
    refine ls hk rfl rfl rfl (e_move hk rfl _) fun a hk => ?_
    refine ls hk rfl rfl rfl (e_move hk rfl _) fun a hk => ?_
    refine ls hk rfl rfl rfl (e_move hk rfl _) fun a hk => ?_
    refine ls hk rfl rfl rfl (e_move hk rfl _) fun a hk => ?_
    refine la hk rfl (a_call hk rfl rfl (c_fn hk rfl ok30) (c30 s t _ (hG.ext hB) (by omega) (by omega)) ?_)
    rintro e w ⟨rfl, hE⟩
    refine ⟨_, rfl, fun a hk => ?_⟩
    have hB := ext_trans hB hE
    refine ls hk rfl rfl rfl (e_move hk rfl _) fun a hk => ?_
    refine ls hk rfl rfl rfl (e_move hk rfl _) fun a hk => ?_
    refine la hk rfl (a_call hk rfl rfl (c_fn hk rfl ok31) (c31 s t _ (hGR.ext hB) (by omega) (by omega)) ?_)
    rintro e w ⟨rfl, hE⟩
    refine ⟨_, rfl, fun a hk => ?_⟩
    have hB := ext_trans hB hE
    refine ls hk rfl rfl rfl (e_seql (s := mac s t) (u := mac s t) (b := true) hk rfl rfl (decide_eq_true rfl) _) fun a hk => ?_
    refine ls hk rfl rfl rfl (e_pickT hk rfl rfl _) fun a hk => ?_
    refine ls hk rfl rfl rfl (e_assign hk rfl _) fun a hk => ?_
    refine lnil (hK5 _ _ ?_)
    refine wp_ret ?_
    exact ret1 hk rfl rfl ⟨rfl, hB⟩

end Go.Proofs.YtidfbboalbchiaaDoor

namespace Go.Proofs.YtidfbboalbchiaaDoor
open Go Go.RowKit

theorem blk_ret {id : Nat} {Q : Exit → Act → World → Prop} {a : Act} {w : World} : Exit.inBlock id Q .ret a w = Q .ret a w := rfl
/-- The digest of parts. -/
def ofD (n : Int) (ps : List (List UInt8)) : List UInt8 := (sha (ofIn n ps)).take 16
@[simp] theorem length_ofD (n : Int) (ps : List (List UInt8)) : (ofD n ps).length = 16 := by simp [ofD, length_sha]
/-- The digest of zero bytes. -/
def zD : List UInt8 := List.replicate 16 0
@[simp] theorem length_zD : zD.length = 16 := rfl
abbrev D (l : List UInt8) : Value := .agg (l.map B).toArray
section
variable {a : Act} {w : World} {N d : Nat} {L : Fm} {ty : TypeId} {pos : String} {af : Array Edge} {g : Option (Nat × Bool)} {v : Value} {x y z : Operand} {t t' : TypeId} {K : Act → World → Prop} {dst : Option Tmp} {l : List UInt8} {bl : Nat} {cs : Array Value} {tb : TypeId} {fr : Nat × Nat}
theorem a_st44 (hk : Kn a N L) (hx : ov L x = some (.pointer (some ⟨bl, 0, none⟩))) (hy : ov L y = some (D l)) (hl : l.length = 16) (hb : w.heap[bl]? = some (.cells cs tb (0, 0))) (hc : cs.size = 16)
    (hK : ∀ a' w', Kn a' N L → Wrote w w' bl (.cells (l.map B).toArray tb (0, 0)) → K a' w') : acts Tryd.prog ⟨none, .store 44 x y, ty, pos, af, g⟩ K a w :=
  a_storeB hk hx hy (bytes_oneA _) (by rw [sz44]; simp [hl]) hb (by simp [hl, hc]) hK
theorem r_ld44 (hk : Kn a N L) (hx : ov L x = some (.pointer (some ⟨bl, 0, none⟩))) (hb : w.heap[bl]? = some (.cells (l.map B).toArray tb fr)) (hl : l.length = 16) : Ev Tryd.prog ⟨dst, .load 44 x, ty, pos, af, g⟩ a w (D l) :=
  r_loadB hk hx hb Tryd.underlying44 rfl (by rw [sz44]; simp [hl])
theorem ret44 {fn : Func} {p : Tmp} {R : Ending → World → Prop} (hk : Kn a N L) (hr : fn.results = #[.cell p 44]) (hv : lk L p = some (.pointer (some ⟨bl, 0, none⟩))) (hb : w.heap[bl]? = some (.cells (l.map B).toArray tb fr)) (hl : l.length = 16) (h : R (.returned (D l)) w) : bodyPost Tryd.prog fn R .ret a w :=
  retA hk hr hv hb Tryd.underlying44 rfl (by rw [sz44]; simp [hl]) h
theorem ret44b {fn : Func} {p u : Tmp} {R : Ending → World → Prop} (hk : Kn a N L) (hr : fn.results = #[.cell p 44, .tmp u]) (hv : lk L p = some (.pointer (some ⟨bl, 0, none⟩))) (hu : lk L u = some v) (hb : w.heap[bl]? = some (.cells (l.map B).toArray tb fr)) (hl : l.length = 16) (h : R (.returned (.tuple #[D l, v])) w) : bodyPost Tryd.prog fn R .ret a w :=
  retA1 hk hr hv hu hb Tryd.underlying44 rfl (by rw [sz44]; simp [hl]) h
/-- The digest of zero bytes, built. -/
theorem e_zero44 (hk : Kn a N L) (w : World) : Ev Tryd.prog ⟨dst, .build 44 #[], ty, pos, af, g⟩ a w (D zD) :=
  e_buildA (ps := []) (vs := []) (sz := 1) hk rfl zr44 Tryd.underlying44 sz5 (by kernel_rfl) w
end
section
variable {P : Program} {a : Act} {w : World} {N d : Nat} {L : Fm} {ty : TypeId} {pos : String} {af : Array Edge} {g : Option (Nat × Bool)} {v u : Value} {x y z : Operand} {t t' : TypeId} {K : Act → World → Prop} {dst : Option Tmp} {bl : Nat} {tb : TypeId} {fr : Nat × Nat}
theorem a_st1 (hk : Kn a N L) (hx : ov L x = some (.pointer (some ⟨bl, 0, none⟩))) (hy : ov L y = some v) (h1 : v.oneCell' = true) (hs : (P.info? t).map (·.size) = some 1) (hb : w.heap[bl]? = some (.cells #[u] tb (0, 0)))
    (hK : ∀ a' w', Kn a' N L → Wrote w w' bl (.cells #[v] tb (0, 0)) → K a' w') : acts P ⟨none, .store t x y, ty, pos, af, g⟩ K a w :=
  a_store hk hx hy h1 hs hb (by simp) fun a' w' hk' hW => hK a' w' hk' hW
theorem r_ld1 {dd : TypeDesc} (hk : Kn a N L) (hx : ov L x = some (.pointer (some ⟨bl, 0, none⟩))) (hu : P.underlying t = some dd) (hd : dd.isRow = false) (hb : w.heap[bl]? = some (.cells #[v] tb fr)) : Ev P ⟨dst, .load t x, ty, pos, af, g⟩ a w v :=
  r_load hk hx hu hd hb rfl
end
/-- A row stays when a newer block is written. -/
theorem rd_keep {w w1 : World} {ad : Option Addr} {n c sz : Nat} {xs : List Value} {b : Nat} {o : Obj} (h : Rd w ad n c sz xs) (G : Grew w w1 b o) : ∀ w2 w3 o', Rd w2 ad n c sz xs → Wrote w2 w3 b o' → Rd w3 ad n c sz xs := by
  intro w2 w3 o' h2 hW
  refine ⟨h2.1, h2.2.1, fun i u hu => ?_⟩
  obtain ⟨b1, o1, e1, c1⟩ := h.2.2 i u hu
  obtain ⟨b2, o2, e2, c2⟩ := h2.2.2 i u hu
  rw [e1] at e2
  cases e2
  have h3 : b1 < w.heap.size := World.block_lt_of_cell? w _ c1
  have := G.ge
  exact ⟨b1, o1, e1, hW.cell (by show b1 ≠ b; omega) c2⟩
theorem own_ne {w w1 : World} {base : Nat} {e : TypeId} {sz : Nat} {v : Value} {n : Nat} {xs : List Value} {b : Nat} {o : Obj} (h : w.ownsRow base e sz v n xs) (G : Grew w w1 b o) : v.ownBlock ≠ some b := fun hh => by
  have := (h.lt b hh).2
  have := G.ge
  omega
theorem rd_none {w : World} {c sz : Nat} : Rd w none 0 c sz [] := ⟨by simp, Nat.zero_le _, fun i u hu => by simp at hu⟩
theorem lit1s (v : Value) (hv : v.cells = #[v]) : ∀ z : Value, Instr.fill (fun i => some (i * 1, 1)) ((Array.range (1 * 1)).map (z.cells[· % z.cells.size]!)) [(0, v)] = some #[v] := fun z => lit1 z v hv
theorem lit2s (v u : Value) (hv : v.cells = #[v]) (hu : u.cells = #[u]) : ∀ z : Value, Instr.fill (fun i => some (i * 1, 1)) ((Array.range (2 * 1)).map (z.cells[· % z.cells.size]!)) [(0, v), (1, u)] = some #[v, u] := by
  intro z
  have hr : Array.range 2 = #[0, 1] := by decide
  have h : ∀ p q : Value, (#[p, q] : Array Value).setIfInBounds 0 v = #[v, q] := fun _ _ => rfl
  have h' : ∀ p q : Value, (#[p, q] : Array Value).setIfInBounds 1 u = #[p, u] := fun _ _ => rfl
  simp [Instr.fill, hv, hu, hr, h, h']
theorem rs_lit1 {w : World} {b : Nat} {e : TypeId} {fr : Nat × Nat} {x : List UInt8} (h : w.heap[b]? = some (.cells #[Str x] e fr)) : Rs w (some ⟨b, 0, none⟩) 1 1 [x] :=
  Rd.of_block h rfl (Nat.le_refl _) fun i hi => by
    have hi' : i < 1 := hi
    match i, hi' with
    | 0, _ => rfl
theorem rs_lit2 {w : World} {b : Nat} {e : TypeId} {fr : Nat × Nat} {x y : List UInt8} (h : w.heap[b]? = some (.cells #[Str x, Str y] e fr)) : Rs w (some ⟨b, 0, none⟩) 2 2 [x, y] :=
  Rd.of_block h rfl (Nat.le_refl _) fun i hi => by
    have hi' : i < 2 := hi
    match i, hi' with
    | 0, _ => rfl
    | 1, _ => rfl
/-- The bytes of a digest in a block. -/
theorem rd_dig {w : World} {b : Nat} {t : TypeId} {fr : Nat × Nat} {l : List UInt8} (h : w.heap[b]? = some (.cells (l.map B).toArray t fr)) (hl : l.length = 16) : Rd w (some ⟨b, 0, none⟩) 16 16 1 (l.map B) :=
  Rd.of_block h (by simp [hl]) (Nat.le_refl _) fun i hi => by rw [Nat.zero_add]; simp
theorem sub_to {w : World} {ad : Option Addr} {n c k : Nat} {xs : List Value} (h : Rd w ad n c 1 xs) (hk : k ≤ n) : Rd w (if c = 0 then ad else ad.map (·.add 0)) k c 1 (xs.take k) := by
  have hl := h.1
  refine ⟨by simp; omega, by have := h.2.1; omega, fun i u hu => ?_⟩
  have hi : i < k := by
    have := (List.getElem?_eq_some_iff.1 hu).1
    simp at this; omega
  rw [List.getElem?_take, if_pos hi] at hu
  obtain ⟨b, o, rfl, hc⟩ := h.2.2 i u hu
  refine ⟨b, o, ?_, hc⟩
  split
  · rfl
  · simp [Addr.add_lit]
theorem sub_from {w : World} {ad : Option Addr} {n c k : Nat} {xs : List Value} (h : Rd w ad n c 1 xs) (hk : k ≤ n) : Rd w (if c = k then ad else ad.map (·.add (k * 1))) (n - k) (c - k) 1 (xs.drop k) := by
  have hl := h.1
  have hn := h.2.1
  refine ⟨by simp; omega, by omega, fun i u hu => ?_⟩
  have hi : k + i < n := by
    have := (List.getElem?_eq_some_iff.1 hu).1
    simp at this; omega
  rw [List.getElem?_drop] at hu
  obtain ⟨b, o, rfl, hc⟩ := h.2.2 (k + i) u hu
  rw [if_neg (by omega)]
  exact ⟨b, o + k, by simp [Addr.add_lit], by rw [show o + k + i = o + (k + i) by omega]; exact hc⟩
theorem sub_mid {w : World} {ad : Option Addr} {n c i j : Nat} {xs : List Value} (h : Rd w ad n c 1 xs) (hij : i ≤ j) (hj : j ≤ n) : Rd w (if c = i then ad else ad.map (·.add (i * 1))) (j - i) (c - i) 1 ((xs.take j).drop i) := by
  have hl := h.1
  have hn := h.2.1
  refine ⟨by simp; omega, by omega, fun k u hu => ?_⟩
  have hi : i + k < j := by
    have := (List.getElem?_eq_some_iff.1 hu).1
    simp at this; omega
  rw [List.getElem?_drop, List.getElem?_take, if_pos hi] at hu
  obtain ⟨b, o, rfl, hc⟩ := h.2.2 (i + k) u hu
  rw [if_neg (by omega)]
  exact ⟨b, o + i, by simp [Addr.add_lit], by rw [show o + i + k = o + (i + k) by omega]; exact hc⟩
end Go.Proofs.YtidfbboalbchiaaDoor

namespace Go.Proofs.YtidfbboalbchiaaDoor
open Go Go.RowKit

/-- Few pieces, each short. -/
def few (ps : List (List UInt8)) : Bool := decide (ps.length ≤ 12) && ps.all fun x => decide (x.length ≤ 400)
theorem few_iff (ps : List (List UInt8)) : few ps = true ↔ ps.length ≤ 12 ∧ ∀ x ∈ ps, x.length ≤ 400 := by
  simp [few]

set_option maxRecDepth 4000 in
set_option maxHeartbeats 1000000 in
theorem c25 (ps : List (List UInt8)) (ad : Option Addr) (c : Nat) (w0 : World) (hR : Rs w0 ad ps.length c ps) (hn : ps.length ≤ 9223372036854775807) :
    Calls Tryd.prog 25 #[.slice ad ps.length c] w0 fun e w' => e = .returned (.bool (few ps)) ∧ Ext w0 w' := by
  refine start 19 Tryd.func25 rfl rfl rfl fun a hk => ?_
  refine wp_seq_k fun K1 hK1 => ?_
  refine wp_region_lit ?_
  refine ls hk rfl rfl rfl (e_assign hk rfl _) fun a hk => ?_
  refine lnil (hK1 _ _ ?_)
  refine wp_seq_k fun K2 hK2 => ?_
  refine wp_seq_k fun K3 hK3 => ?_
  refine wp_region_lit ?_
  refine ls hk rfl rfl rfl (e_move hk rfl _) fun a hk => ?_
  refine ls hk rfl rfl rfl (e_lenS hk rfl Tryd.underlying27 _) fun a hk => ?_
  refine ls hk rfl rfl rfl (e_gtr hk rfl rfl rfl _) fun a hk => ?_
  refine lnil (hK3 _ _ ?_)
  refine cdB hk rfl (fun hb => ?_) (fun hb => ?_)
  · have hgt : ¬ ps.length ≤ 12 := by have := of_decide_eq_true hb; omega
    refine wp_seq_k fun K4 hK4 => ?_
    refine wp_region_lit ?_
    refine ls hk rfl rfl rfl (e_assign hk rfl _) fun a hk => ?_
    refine lnil (hK4 _ _ ?_)
    refine wp_ret ?_
    simp only [then_ret]
    exact ret1 hk rfl rfl ⟨by simp [few, hgt], Below.refl _ _⟩
  · have hle : ps.length ≤ 12 := by have := of_decide_eq_false hb; omega
    refine wp_skip (hK2 _ _ ?_)
    refine wp_seq_k fun K5 hK5 => ?_
    refine wp_seq_k fun K6 hK6 => ?_
    refine wp_region_lit ?_
    refine ls hk rfl rfl rfl (e_assign hk rfl _) fun a hk => ?_
    refine lnil (hK6 _ _ ?_)
    refine wp_block ?_
    refine loopN (fun n a w => ∃ j : Nat, n = ps.length - j ∧ j ≤ ps.length ∧ (∀ x ∈ ps.take j, x.length ≤ 400) ∧ Kn a 19 [(0, .slice ad ps.length c), (3, I j)] ∧ Ext w0 w) (ps.length) ?_ fun n a w hI => ?_
    · exact ⟨0, rfl, Nat.zero_le _, by simp, hk.sub _ ⟨rfl, rfl, trivial⟩, Below.refl _ _⟩
    obtain ⟨j, rfl, hj, hall, hk, hB⟩ := hI
    refine wp_seq_k fun K7 hK7 => ?_
    refine wp_seq_k fun K8 hK8 => ?_
    refine wp_region_lit ?_
    refine ls hk rfl rfl rfl (e_move hk rfl _) fun a hk => ?_
    refine ls hk rfl rfl rfl (e_move hk rfl _) fun a hk => ?_
    refine ls hk rfl rfl rfl (e_lenS hk rfl Tryd.underlying27 _) fun a hk => ?_
    refine ls hk rfl rfl rfl (e_lss hk rfl rfl rfl _) fun a hk => ?_
    refine lnil (hK8 _ _ ?_)
    refine cdB hk rfl (fun hb => ?_) (fun hb => ?_)
    · have hjl : j < ps.length := by have := of_decide_eq_true hb; omega
      obtain ⟨x, hx⟩ : ∃ x, ps[j]? = some x := ⟨_, List.getElem?_eq_getElem hjl⟩
      obtain ⟨bp, op, rfl, hcell⟩ := Rs.get (Rd.below hR hB (Nat.le_refl _)) j x hx
      refine wp_skip (hK7 _ _ ?_)
      refine wp_seq_k fun K9 hK9 => ?_
      refine wp_block ?_
      refine wp_seq_k fun K10 hK10 => ?_
      refine wp_region_lit ?_
      refine ls hk rfl rfl rfl (e_move hk rfl _) fun a hk => ?_
      refine ls hk rfl rfl rfl (e_move hk rfl _) fun a hk => ?_
      refine ls hk rfl rfl rfl (e_idxS1 j hk rfl rfl Tryd.underlying27 sz9 rfl hjl _) fun a hk => ?_
      refine ls hk rfl rfl rfl (r_load1 (v := Str x) hk rfl Tryd.underlying9 rfl hcell) fun a hk => ?_
      refine ls hk rfl rfl rfl (e_lenStr hk rfl Tryd.underlying9 _) fun a hk => ?_
      refine ls hk rfl rfl rfl (e_gtr hk rfl rfl rfl _) fun a hk => ?_
      refine lnil (hK10 _ _ ?_)
      refine cdB hk rfl (fun hb => ?_) (fun hb => ?_)
      · have hbig : 400 < x.length := by have := of_decide_eq_true hb; omega
        refine wp_seq_k fun K11 hK11 => ?_
        refine wp_region_lit ?_
        refine ls hk rfl rfl rfl (e_assign hk rfl _) fun a hk => ?_
        refine lnil (hK11 _ _ ?_)
        refine wp_ret ?_
        simp only [then_ret, blk_ret]
        exact ret1 hk rfl rfl ⟨by rw [show few ps = false from Bool.eq_false_iff.2 fun h => by have := ((few_iff ps).1 h).2 x (List.mem_of_getElem? hx); omega], hB⟩
      · have hsm : x.length ≤ 400 := by have := of_decide_eq_false hb; omega
        have hall2 : ∀ y ∈ ps.take (j + 1), y.length ≤ 400 := by
          intro y hy
          rw [List.take_add_one, hx] at hy
          rcases List.mem_append.1 hy with h | h
          · exact hall y h
          · obtain rfl : y = x := by simpa using h
            exact hsm
        refine wp_skip (hK9 _ _ ?_)
        refine wp_region_lit ?_
        refine ls hk rfl rfl rfl (e_move hk rfl _) fun a hk => ?_
        refine ls hk rfl rfl rfl (e_add hk rfl rfl (i64 (by omega) (by omega)) _) fun a hk => ?_
        refine ls hk rfl rfl rfl (e_assign hk rfl _) fun a hk => ?_
        refine lnil (show ∃ m : Nat, m < _ ∧ _ from ⟨ps.length - (j + 1), by omega, j + 1, rfl, by omega, hall2, hk.sub _ ⟨rfl, rfl, trivial⟩, hB⟩)
    · have hjl : j = ps.length := by have := of_decide_eq_false hb; omega
      subst hjl
      rw [List.take_length] at hall
      refine wp_exit (hK5 _ _ ?_)
      refine wp_seq_k fun K12 hK12 => ?_
      refine wp_region_lit ?_
      refine ls hk rfl rfl rfl (e_assign hk rfl _) fun a hk => ?_
      refine lnil (hK12 _ _ ?_)
      refine wp_ret ?_
      exact ret1 hk rfl rfl ⟨by rw [(few_iff ps).2 ⟨hle, hall⟩], hB⟩

theorem join_take (ps : List (List UInt8)) (j : Nat) (x : List UInt8) (h : ps[j]? = some x) : (ps.take (j + 1)).flatten = (ps.take j).flatten ++ x := by
  rw [List.take_add_one, h]
  simp only [Option.toList_some, List.flatten_append, List.flatten_cons, List.flatten_nil, List.append_nil]
theorem join_len (k : Nat) : ∀ (ps : List (List UInt8)), (∀ x ∈ ps, x.length ≤ k) → ps.flatten.length ≤ ps.length * k := by
  intro ps
  induction ps with
  | nil => intro _; simp
  | cons x r ih =>
    intro h
    have h1 := ih fun y hy => h y (List.mem_cons_of_mem _ hy)
    have h2 := h x (List.mem_cons_self ..)
    simp only [List.flatten_cons, List.length_append, List.length_cons]
    rw [Nat.succ_mul]; omega

set_option maxRecDepth 4000 in
set_option maxHeartbeats 1000000 in
theorem c28 (ps : List (List UInt8)) (ad : Option Addr) (c : Nat) (w0 : World) (hR : Rs w0 ad ps.length c ps) (hn : ps.length ≤ 1000000) (hlen : ∀ x ∈ ps, x.length ≤ 1000000) :
    Calls Tryd.prog 28 #[.slice ad ps.length c] w0 fun e w' => e = .returned (Str ps.flatten) ∧ Ext w0 w' := by
  refine start 18 Tryd.func28 rfl rfl rfl fun a hk => ?_
  refine wp_seq_k fun K1 hK1 => ?_
  refine wp_region_lit ?_
  refine ls hk rfl rfl rfl (e_assign hk rfl _) fun a hk => ?_
  refine lnil (hK1 _ _ ?_)
  refine wp_seq_k fun K2 hK2 => ?_
  refine wp_region_lit ?_
  refine ls hk rfl rfl rfl (e_assign hk rfl _) fun a hk => ?_
  refine lnil (hK2 _ _ ?_)
  refine wp_seq_k fun K3 hK3 => ?_
  refine wp_seq_k fun K4 hK4 => ?_
  refine wp_region_lit ?_
  refine ls hk rfl rfl rfl (e_assign hk rfl _) fun a hk => ?_
  refine lnil (hK4 _ _ ?_)
  refine wp_block ?_
  refine loopN (fun n a w => ∃ j : Nat, n = ps.length - j ∧ j ≤ ps.length ∧ Kn a 18 [(0, .slice ad ps.length c), (3, Str (ps.take j).flatten), (4, I j)] ∧ Ext w0 w) (ps.length) ?_ fun n a w hI => ?_
  · exact ⟨0, rfl, Nat.zero_le _, hk.sub _ ⟨rfl, rfl, rfl, trivial⟩, Below.refl _ _⟩
  obtain ⟨j, rfl, hj, hk, hB⟩ := hI
  refine wp_seq_k fun K5 hK5 => ?_
  refine wp_seq_k fun K6 hK6 => ?_
  refine wp_region_lit ?_
  refine ls hk rfl rfl rfl (e_move hk rfl _) fun a hk => ?_
  refine ls hk rfl rfl rfl (e_move hk rfl _) fun a hk => ?_
  refine ls hk rfl rfl rfl (e_lenS hk rfl Tryd.underlying27 _) fun a hk => ?_
  refine ls hk rfl rfl rfl (e_lss hk rfl rfl rfl _) fun a hk => ?_
  refine lnil (hK6 _ _ ?_)
  refine cdB hk rfl (fun hb => ?_) (fun hb => ?_)
  · have hjl : j < ps.length := by have := of_decide_eq_true hb; omega
    obtain ⟨x, hx⟩ : ∃ x, ps[j]? = some x := ⟨_, List.getElem?_eq_getElem hjl⟩
    obtain ⟨bp, op, rfl, hcell⟩ := Rs.get (Rd.below hR hB (Nat.le_refl _)) j x hx
    have hxl := hlen x (List.mem_of_getElem? hx)
    have hfl := join_len 1000000 (ps.take j) fun y hy => hlen y (List.mem_of_mem_take hy)
    have htl : (ps.take j).length ≤ 1000000 := by simp; omega
    refine wp_skip (hK5 _ _ ?_)
    refine wp_seq_k fun K7 hK7 => ?_
    refine wp_block ?_
    refine wp_region_lit ?_
    refine ls hk rfl rfl rfl (e_move hk rfl _) fun a hk => ?_
    refine ls hk rfl rfl rfl (e_move hk rfl _) fun a hk => ?_
    refine ls hk rfl rfl rfl (e_move hk rfl _) fun a hk => ?_
    refine ls hk rfl rfl rfl (e_idxS1 j hk rfl rfl Tryd.underlying27 sz9 rfl hjl _) fun a hk => ?_
    refine ls hk rfl rfl rfl (r_load1 (v := Str x) hk rfl Tryd.underlying9 rfl hcell) fun a hk => ?_
    refine ls hk rfl rfl rfl (e_sadd (s := (ps.take j).flatten) (u := x) hk rfl rfl (by omega) _) fun a hk => ?_
    refine ls hk rfl rfl rfl (e_assign hk rfl _) fun a hk => ?_
    refine lnil (hK7 _ _ ?_)
    refine wp_region_lit ?_
    refine ls hk rfl rfl rfl (e_move hk rfl _) fun a hk => ?_
    refine ls hk rfl rfl rfl (e_add hk rfl rfl (i64 (by omega) (by omega)) _) fun a hk => ?_
    refine ls hk rfl rfl rfl (e_assign hk rfl _) fun a hk => ?_
    refine lnil (show ∃ m : Nat, m < _ ∧ _ from ⟨ps.length - (j + 1), by omega, j + 1, rfl, by omega, hk.sub _ ⟨rfl, by rw [join_take ps j x hx]; rfl, rfl, trivial⟩, hB⟩)
  · have hjl : j = ps.length := by have := of_decide_eq_false hb; omega
    subst hjl
    refine wp_exit (hK3 _ _ ?_)
    refine wp_seq_k fun K8 hK8 => ?_
    refine wp_region_lit ?_
    refine ls hk rfl rfl rfl (e_move hk rfl _) fun a hk => ?_
    refine ls hk rfl rfl rfl (e_assign hk rfl _) fun a hk => ?_
    refine lnil (hK8 _ _ ?_)
    refine wp_ret ?_
    exact ret1 hk rfl rfl ⟨by rw [List.take_length], hB⟩

end Go.Proofs.YtidfbboalbchiaaDoor

namespace Go.Proofs.YtidfbboalbchiaaDoor
open Go Go.RowKit

/-- The i-th digit of m. -/
def dg (m i : Nat) : UInt8 := UInt8.ofNat (m / 256 ^ i % 256)
def dgs (m k : Nat) : List UInt8 := (List.range k).map (dg m)
theorem dgs_succ (m k : Nat) : dgs m (k + 1) = dgs m k ++ [dg m k] := by
  simp [dgs, List.range_succ]
theorem length_dgs (m k : Nat) : (dgs m k).length = k := by simp [dgs]
theorem dgs_get (m k i : Nat) (h : i < k) : (dgs m k).getD i 0 = dg m i := by simp [dgs, h]
theorem div_pow (m k : Nat) : m / 256 ^ k / 256 = m / 256 ^ (k + 1) := by rw [Nat.div_div_eq_div_mul, Nat.pow_succ]
theorem head_pos (n : Int) (h : ¬ n < 0) : byteOf (128 + (nb (mag n) : Int)) = UInt8.ofNat (128 + nb (mag n)) ^^^ flip n := by
  rw [show (128 : Int) + (nb (mag n) : Int) = ((128 + nb (mag n) : Nat) : Int) by omega, byteOf_nat, flip, if_neg h]
  simp
theorem neg_byte (x : UInt8) : UInt8.ofNat (255 - x.toNat) = x ^^^ 255 := by
  have : ∀ x : Fin 256, UInt8.ofNat (255 - x.val) = UInt8.ofNat x.val ^^^ 255 := by decide +kernel
  have h := this ⟨x.toNat, x.toNat_lt⟩
  simpa using h
theorem head_neg (n : Int) (h : n < 0) : byteOf (127 - (nb (mag n) : Int)) = UInt8.ofNat (128 + nb (mag n)) ^^^ flip n := by
  have h8 := nb_le (mag n)
  rw [show (127 : Int) - (nb (mag n) : Int) = ((127 - nb (mag n) : Nat) : Int) by omega, byteOf_nat, flip, if_pos h, ← neg_byte]
  congr 1
  have e : (UInt8.ofNat (128 + nb (mag n))).toNat = (128 + nb (mag n)) % 2 ^ 8 := rfl
  omega
/-- A byte, taken from 255. -/
theorem b_neg (x : UInt8) : IntKind.u8.wrap (255 - (x.toNat : Int)) = ((x ^^^ 255).toNat : Int) := by
  rw [← neg_byte, wrap8u]
  have h := x.toNat_lt
  have e : (UInt8.ofNat (255 - x.toNat)).toNat = (255 - x.toNat) % 2 ^ 8 := rfl
  omega
theorem digs_len_take (m : Nat) (fl : UInt8) : (digs m fl).take (nb m) = digs m fl := List.take_of_length_le (by rw [length_digs]; omega)

set_option maxRecDepth 4000 in
set_option maxHeartbeats 1000000 in
theorem c118 (n₀ : Int) (w0 : World) (h0 : -9223372036854775808 ≤ n₀) (h1 : n₀ ≤ 9223372036854775807) :
    Calls Tryd.prog 118 #[I n₀] w0 fun e w' => ∃ ad c, e = .returned (.slice ad (encI n₀).length c) ∧ w'.ownsRow w0.heap.size 5 1 (.slice ad (encI n₀).length c) (encI n₀).length ((encI n₀).map B) ∧ Ext w0 w' := by
  have hm63 : mag n₀ ≤ 9223372036854775807 := by unfold mag; split <;> omega
  have hm64 : mag n₀ < 18446744073709551616 := by omega
  refine start 59 Tryd.func118 rfl rfl rfl fun a hk => ?_
  have hB : Ext w0 w0 := Below.refl _ _
  refine wp_seq_k fun K1 hK1 => ?_
  refine wp_region_lit ?_
  refine ls hk rfl rfl rfl (e_assign hk rfl _) fun a hk => ?_
  refine lnil (hK1 _ _ ?_)
  refine wp_seq_k fun K2 hK2 => ?_
  refine wp_region_lit ?_
  refine ls hk rfl rfl rfl (e_move hk rfl _) fun a hk => ?_
  refine ls hk rfl rfl rfl (e_assign hk rfl _) fun a hk => ?_
  refine lnil (hK2 _ _ ?_)
  refine wp_seq_k fun K3 hK3 => ?_
  have hJ3 : ∀ (a : Act) (w : World), (Kn a 59 [(0, I n₀), (3, I (mag n₀ : Nat))] ∧ (Ext w0 w)) → K3 a w := by
    clear hk hB
    intro a w ⟨hk, hB⟩
    refine hK3 _ _ ?_
    refine wp_seq_k fun K4 hK4 => ?_
    refine wp_region_lit ?_
    refine ls hk rfl rfl rfl (e_assign hk rfl _) fun a hk => ?_
    refine lnil (hK4 _ _ ?_)
    refine wp_seq_k fun K5 hK5 => ?_
    refine wp_block ?_
    refine loopN (fun n a w => ∃ (k : Nat) (ad : Option Addr) (c : Nat), n = nb (mag n₀) - k ∧ k ≤ nb (mag n₀) ∧ Kn a 59 [(0, I n₀), (3, I (mag n₀ / 256 ^ k : Nat)), (4, .slice ad k c)] ∧ Ext w0 w ∧ w.ownsRow w0.heap.size 5 1 (.slice ad (k) c) (k) ((dgs (mag n₀) k).map B)) (nb (mag n₀)) ?_ fun n a w hI => ?_
    · exact ⟨0, none, 0, rfl, Nat.zero_le _, hk.sub _ ⟨rfl, by rw [Nat.pow_zero, Nat.div_one]; rfl, rfl, trivial⟩, hB, own_nil⟩
    clear hB
    obtain ⟨k, ad, c, rfl, hkn, hk, hB, hown⟩ := hI
    have hn8 := nb_le (mag n₀)
    have hCC := hB.size
    have hdl : mag n₀ / 256 ^ k ≤ mag n₀ := Nat.div_le_self _ _
    refine wp_seq_k fun K6 hK6 => ?_
    refine wp_seq_k fun K7 hK7 => ?_
    refine wp_region_lit ?_
    refine ls hk rfl rfl rfl (e_move hk rfl _) fun a hk => ?_
    refine ls hk rfl rfl rfl (e_gtr hk rfl rfl rfl _) fun a hk => ?_
    refine lnil (hK7 _ _ ?_)
    refine cdB hk rfl (fun hb => ?_) (fun hb => ?_)
    · have hpos : 0 < mag n₀ / 256 ^ k := by
        have h := of_decide_eq_true hb
        generalize mag n₀ / 256 ^ k = q at h; omega
      have hlt : k < nb (mag n₀) := nb_ge_of (mag n₀) k hm64 (Nat.div_pos_iff.1 hpos).2
      refine wp_skip (hK6 _ _ ?_)
      refine wp_block ?_
      refine wp_seq_k fun K8 hK8 => ?_
      refine wp_region_lit ?_
      refine ls hk rfl rfl rfl (e_move hk rfl _) fun a hk => ?_
      refine ls hk rfl rfl rfl (e_move hk rfl _) fun a hk => ?_
      refine ls hk rfl rfl rfl (e_rem (q := ((mag n₀ / 256 ^ k % 256 : Nat) : Int)) hk rfl rfl (by decide) (i_rem (mag n₀ / 256 ^ k) 256) _) fun a hk => ?_
      refine ls hk rfl rfl rfl (e_conv hk rfl Tryd.underlying3 Tryd.underlying5 (i_b _) _) fun a hk => ?_
      rw [byteOf_nat] at hk
      refine la hk rfl (a_lit (cells := #[B (dg (mag n₀) k)]) (zv := .int .u8 0) (sz := 1) (by_ := 1) hk rfl rfl Tryd.underlying22 el5 (by decide) (by decide) (lit1 _ _ rfl) rfl fun a w bl hk GL => ?_)
      have hB := ext_trans hB GL.ext
      have hown := own_ext hown GL.ext
      have hRd := lit_byte _ GL
      have hCC := Nat.le_trans hCC GL.ext.size
      clear GL
      refine la hk rfl (a_app hk rfl rfl hown rfl hRd (bytes_one _) Tryd.underlying22 el5 rfl (by decide) (by omega) (by omega) hCC fun a w v hk hown' hKp => ?_)
      have hB := kept_below hKp hB hown (Nat.le_refl _) hCC
      have hCC := Nat.le_trans hCC hKp.size
      clear hown hRd hKp
      obtain ⟨ad, c, rfl, _, _⟩ := Rd.of_own hown'
      have hown : w.ownsRow w0.heap.size 5 1 (.slice ad (k + 1) c) (k + 1) ((dgs (mag n₀) (k + 1)).map B) := by
        rw [dgs_succ, List.map_append]; exact hown'
      clear hown'
      refine ls hk rfl rfl rfl (e_assign hk rfl _) fun a hk => ?_
      refine lnil (hK8 _ _ ?_)
      refine wp_region_lit ?_
      refine ls hk rfl rfl rfl (e_move hk rfl _) fun a hk => ?_
      refine ls hk rfl rfl rfl (e_quo (q := ((mag n₀ / 256 ^ k / 256 : Nat) : Int)) hk rfl rfl (by decide) (by rw [show ((mag n₀ / 256 ^ k : Nat) : Int).tdiv 256 = ((mag n₀ / 256 ^ k / 256 : Nat) : Int) from i_quo (mag n₀ / 256 ^ k) 256]; exact i64 (by omega) (by generalize mag n₀ / 256 ^ k = q at hdl ⊢; omega)) _) fun a hk => ?_
      refine ls hk rfl rfl rfl (e_assign hk rfl _) fun a hk => ?_
      refine lnil (show ∃ m : Nat, m < _ ∧ _ from ⟨nb (mag n₀) - (k + 1), by omega, k + 1, _, _, rfl, by omega, hk.sub _ ⟨rfl, by rw [← div_pow]; rfl, rfl, trivial⟩, hB, hown⟩)
    · have hz : mag n₀ / 256 ^ k = 0 := by
        have h := of_decide_eq_false hb
        generalize mag n₀ / 256 ^ k = q at h; omega
      have hke : k = nb (mag n₀) := by
        have := nb_le_of (mag n₀) k ((Nat.div_eq_zero_iff_lt (Nat.pow_pos (by decide))).1 hz)
        omega
      clear hz hb
      subst hke
      refine wp_exit (hK5 _ _ ?_)
      refine wp_seq_k fun K9 hK9 => ?_
      obtain ⟨w1, rfl⟩ : ∃ w1, w1 = w := ⟨w, rfl⟩
      have hB0 := hB
      clear hB hCC
      have hB : Ext w1 w1 := Below.refl _ _
      have hCC : w1.heap.size ≤ w1.heap.size := Nat.le_refl _
      obtain ⟨ad4, c4, hv, _, hR4⟩ := Rd.of_own hown
      cases hv
      clear hown hdl
      have hown : w1.ownsRow w1.heap.size 5 1 (.slice none 0 0) 0 (([] : List UInt8).map B) := own_nil
      refine wp_region_lit ?_
      refine ls hk rfl rfl rfl (e_move hk rfl _) fun a hk => ?_
      refine ls hk rfl rfl rfl (e_lenS hk rfl Tryd.underlying22 _) fun a hk => ?_
      refine ls hk rfl rfl rfl (e_assign hk rfl _) fun a hk => ?_
      refine lnil (hK9 _ _ ?_)
      refine wp_seq_k fun K10 hK10 => ?_
      refine wp_region_lit ?_
      refine ls hk rfl rfl rfl (e_assign hk rfl _) fun a hk => ?_
      refine lnil (hK10 _ _ ?_)
      refine wp_seq_k fun K11 hK11 => ?_
      have hJ11 : ∀ (a : Act) (w : World), (∃ (ad6 : Option Addr) (c6 : Nat), Kn a 59 [(0, I n₀), (4, .slice ad (nb (mag n₀)) c), (5, I (nb (mag n₀))), (6, .slice ad6 1 c6)] ∧ (Ext w1 w) ∧ (w1.heap.size ≤ w.heap.size) ∧ (w.ownsRow w1.heap.size 5 1 (.slice ad6 (1) c6) (1) (([UInt8.ofNat (128 + nb (mag n₀)) ^^^ flip n₀]).map B))) → K11 a w := by
        clear hk hB
        intro a w ⟨ad6, c6, hk, hB, hCC, hown⟩
        refine hK11 _ _ ?_
        refine wp_seq_k fun K12 hK12 => ?_
        refine wp_seq_k fun K13 hK13 => ?_
        refine wp_region_lit ?_
        refine ls hk rfl rfl rfl (e_move hk rfl _) fun a hk => ?_
        refine ls hk rfl rfl rfl (e_sub hk rfl rfl (i64 (by omega) (by omega)) _) fun a hk => ?_
        refine ls hk rfl rfl rfl (e_assign hk rfl _) fun a hk => ?_
        refine lnil (hK13 _ _ ?_)
        refine wp_block ?_
        refine loopN (fun n a w => ∃ j : Nat, ∃ (ad6 : Option Addr) (c6 : Nat), n = (nb (mag n₀)) - j ∧ j ≤ (nb (mag n₀)) ∧ Kn a 59 [(0, I n₀), (4, .slice ad (nb (mag n₀)) c), (6, .slice ad6 (1 + j) c6), (7, I (((nb (mag n₀) : Nat) : Int) - 1 - ((j : Nat) : Int)))] ∧ (Ext w1 w) ∧ (w1.heap.size ≤ w.heap.size) ∧ (w.ownsRow w1.heap.size 5 1 (.slice ad6 (1 + j) c6) (1 + j) (((UInt8.ofNat (128 + nb (mag n₀)) ^^^ flip n₀) :: (digs (mag n₀) (flip n₀)).take j).map B))) ((nb (mag n₀)) - 0) ?_ fun n a w hI => ?_
        · exact ⟨0, _, _, rfl, by omega, hk.sub _ ⟨rfl, rfl, rfl, by rw [show ((nb (mag n₀) : Nat) : Int) - 1 - ((0 : Nat) : Int) = ((nb (mag n₀) : Nat) : Int) - 1 by omega]; rfl, trivial⟩, hB, hCC, hown⟩
        clear hk hB hCC hown
        obtain ⟨j, ad6, c6, rfl, hi_le, hk, hB, hCC, hown⟩ := hI
        refine wp_seq_k fun K14 hK14 => ?_
        refine wp_seq_k fun K15 hK15 => ?_
        refine wp_region_lit ?_
        refine ls hk rfl rfl rfl (e_move hk rfl _) fun a hk => ?_
        refine ls hk rfl rfl rfl (e_geq hk rfl rfl rfl _) fun a hk => ?_
        refine lnil (hK15 _ _ ?_)
        refine cdB hk rfl (fun hb => ?_) (fun hb => ?_)
        · have hj : j < nb (mag n₀) := by have := of_decide_eq_true hb; omega
          refine wp_skip (hK14 _ _ ?_)
          refine wp_seq_k fun K16 hK16 => ?_
          refine wp_block ?_
          refine wp_seq_k fun K17 hK17 => ?_
          obtain ⟨b4, o4, rfl, hc4⟩ := (hR4.ext hB).2.2 (nb (mag n₀) - 1 - j) (B (dg (mag n₀) (nb (mag n₀) - 1 - j))) (by rw [List.getElem?_map, dgs, List.getElem?_map, List.getElem?_range (by omega)]; rfl)
          refine wp_region_lit ?_
          refine ls hk rfl rfl rfl (e_move hk rfl _) fun a hk => ?_
          refine ls hk rfl rfl rfl (e_move hk rfl _) fun a hk => ?_
          refine ls hk rfl rfl rfl (e_idxS1 (nb (mag n₀) - 1 - j) hk rfl rfl Tryd.underlying22 sz5 (by omega) (by omega) _) fun a hk => ?_
          refine ls hk rfl rfl rfl (r_load1 hk rfl Tryd.underlying5 rfl hc4) fun a hk => ?_
          refine ls hk rfl rfl rfl (e_assign hk rfl _) fun a hk => ?_
          refine lnil (hK17 _ _ ?_)
          refine wp_seq_k fun K18 hK18 => ?_
          have hJ18 : ∀ (a : Act) (w : World), (Kn a 59 [(0, I n₀), (4, .slice (some ⟨b4, o4, none⟩) (nb (mag n₀)) c), (6, .slice ad6 (1 + j) c6), (7, I (((nb (mag n₀) : Nat) : Int) - 1 - ((j : Nat) : Int))), (8, B (dg (mag n₀) (nb (mag n₀) - 1 - j) ^^^ flip n₀))] ∧ (Ext w1 w) ∧ (w1.heap.size ≤ w.heap.size) ∧ (w.ownsRow w1.heap.size 5 1 (.slice ad6 (1 + j) c6) (1 + j) (((UInt8.ofNat (128 + nb (mag n₀)) ^^^ flip n₀) :: (digs (mag n₀) (flip n₀)).take j).map B))) → K18 a w := by
            clear hk hB hCC hown
            intro a w ⟨hk, hB, hCC, hown⟩
            refine hK18 _ _ ?_
            refine wp_region_lit ?_
            refine ls hk rfl rfl rfl (e_move hk rfl _) fun a hk => ?_
            refine ls hk rfl rfl rfl (e_move hk rfl _) fun a hk => ?_
            refine la hk rfl (a_lit (cells := #[B (dg (mag n₀) (nb (mag n₀) - 1 - j) ^^^ flip n₀)]) (zv := .int .u8 0) (sz := 1) (by_ := 1) hk rfl rfl Tryd.underlying22 el5 (by decide) (by decide) (lit1 _ _ rfl) rfl fun a w bl hk GL => ?_)
            have hB := ext_trans hB GL.ext
            have hown := own_ext hown GL.ext
            have hRd := lit_byte _ GL
            have hCC := Nat.le_trans hCC GL.ext.size
            clear GL
            refine la hk rfl (a_app hk rfl rfl hown rfl hRd (bytes_one _) Tryd.underlying22 el5 rfl (by decide) (by omega) (by omega) hCC fun a w v hk hown' hKp => ?_)
            have hB := kept_below hKp hB hown (Nat.le_refl _) hCC
            have hCC := Nat.le_trans hCC hKp.size
            clear hown hRd hKp
            obtain ⟨ad7, c7, rfl, _, _⟩ := Rd.of_own hown'
            rw [show 1 + j + 1 = 1 + (j + 1) by omega] at hk hown'
            have hown : w.ownsRow w1.heap.size 5 1 (.slice ad7 (1 + (j + 1)) c7) (1 + (j + 1)) (((UInt8.ofNat (128 + nb (mag n₀)) ^^^ flip n₀) :: (digs (mag n₀) (flip n₀)).take (j + 1)).map B) := by
              rw [digs_take _ _ _ hj]; simpa [dg] using hown'
            clear hown'
            refine ls hk rfl rfl rfl (e_assign hk rfl _) fun a hk => ?_
            refine lnil (hK16 _ _ ?_)
            refine wp_region_lit ?_
            refine ls hk rfl rfl rfl (e_move hk rfl _) fun a hk => ?_
            refine ls hk rfl rfl rfl (e_sub hk rfl rfl (i64 (by omega) (by omega)) _) fun a hk => ?_
            refine ls hk rfl rfl rfl (e_assign hk rfl _) fun a hk => ?_
            refine lnil (show ∃ m : Nat, m < _ ∧ _ from ⟨(nb (mag n₀)) - (j + 1), by omega, j + 1, _, _, rfl, by omega, hk.sub _ ⟨rfl, rfl, rfl, by rw [show ((nb (mag n₀) : Nat) : Int) - 1 - ((j + 1 : Nat) : Int) = ((nb (mag n₀) : Nat) : Int) - 1 - ((j : Nat) : Int) - 1 by omega]; rfl, trivial⟩, hB, hCC, hown⟩)
          refine wp_seq_k fun K19 hK19 => ?_
          refine wp_region_lit ?_
          refine ls hk rfl rfl rfl (e_move hk rfl _) fun a hk => ?_
          refine ls hk rfl rfl rfl (e_lss hk rfl rfl rfl _) fun a hk => ?_
          refine lnil (hK19 _ _ ?_)
          refine cdB hk rfl (fun hb => ?_) (fun hb => ?_)
          · have hneg : n₀ < 0 := by have := of_decide_eq_true hb; omega
            refine wp_region_lit ?_
            refine ls hk rfl rfl rfl (e_move hk rfl _) fun a hk => ?_
            refine ls hk rfl rfl rfl (e_sub hk rfl rfl (b_neg _) _) fun a hk => ?_
            refine ls hk rfl rfl rfl (e_assign hk rfl _) fun a hk => ?_
            refine lnil (hJ18 _ _ ⟨by first | exact hk.sub _ ⟨rfl, rfl, rfl, rfl, rfl, trivial⟩ | (rw [flip, if_neg hneg, UInt8.xor_zero]; exact hk.sub _ ⟨rfl, rfl, rfl, rfl, rfl, trivial⟩) | (rw [flip, if_pos hneg]; exact hk.sub _ ⟨rfl, rfl, rfl, rfl, rfl, trivial⟩), hB, hCC, hown⟩)
          · have hneg : ¬ n₀ < 0 := by have := of_decide_eq_false hb; omega
            refine wp_skip (hJ18 _ _ ⟨by first | exact hk.sub _ ⟨rfl, rfl, rfl, rfl, rfl, trivial⟩ | (rw [flip, if_neg hneg, UInt8.xor_zero]; exact hk.sub _ ⟨rfl, rfl, rfl, rfl, rfl, trivial⟩) | (rw [flip, if_pos hneg]; exact hk.sub _ ⟨rfl, rfl, rfl, rfl, rfl, trivial⟩), hB, hCC, hown⟩)
        · have hj : j = nb (mag n₀) := by have := of_decide_eq_false hb; omega
          subst hj
          rw [digs_len_take] at hown
          have hl : (encI n₀).length = 1 + nb (mag n₀) := length_encI n₀
          refine wp_exit (hK12 _ _ ?_)
          refine wp_seq_k fun K20 hK20 => ?_
          refine wp_region_lit ?_
          refine ls hk rfl rfl rfl (e_move hk rfl _) fun a hk => ?_
          refine ls hk rfl rfl rfl (e_assign hk rfl _) fun a hk => ?_
          refine lnil (hK20 _ _ ?_)
          refine wp_ret ?_
          rw [← hl] at hk hown
          exact ret1 hk rfl rfl ⟨ad6, c6, rfl, own_mono hown hB0.size, ext_trans hB0 hB⟩
      refine wp_seq_k fun K21 hK21 => ?_
      refine wp_region_lit ?_
      refine ls hk rfl rfl rfl (e_move hk rfl _) fun a hk => ?_
      refine ls hk rfl rfl rfl (e_geq hk rfl rfl rfl _) fun a hk => ?_
      refine lnil (hK21 _ _ ?_)
      refine cdB hk rfl (fun hb => ?_) (fun hb => ?_)
      · have hneg : ¬ n₀ < 0 := by have := of_decide_eq_true hb; omega
        refine wp_region_lit ?_
        refine ls hk rfl rfl rfl (e_move hk rfl _) fun a hk => ?_
        refine ls hk rfl rfl rfl (e_move hk rfl _) fun a hk => ?_
        refine ls hk rfl rfl rfl (e_add hk rfl rfl (i64 (by omega) (by omega)) _) fun a hk => ?_
        refine ls hk rfl rfl rfl (e_conv hk rfl Tryd.underlying3 Tryd.underlying5 (i_b _) _) fun a hk => ?_
        rw [head_pos n₀ hneg] at hk
        refine la hk rfl (a_lit (cells := #[B (UInt8.ofNat (128 + nb (mag n₀)) ^^^ flip n₀)]) (zv := .int .u8 0) (sz := 1) (by_ := 1) hk rfl rfl Tryd.underlying22 el5 (by decide) (by decide) (lit1 _ _ rfl) rfl fun a w bl hk GL => ?_)
        have hB := ext_trans hB GL.ext
        have hown := own_ext hown GL.ext
        have hRd := lit_byte _ GL
        have hCC := Nat.le_trans hCC GL.ext.size
        clear GL
        refine la hk rfl (a_app hk rfl rfl hown rfl hRd (bytes_one _) Tryd.underlying22 el5 rfl (by decide) (by omega) (by omega) hCC fun a w v hk hown' hKp => ?_)
        have hB := kept_below hKp hB hown (Nat.le_refl _) hCC
        have hCC := Nat.le_trans hCC hKp.size
        clear hown hRd hKp
        obtain ⟨ad, c, rfl, _, _⟩ := Rd.of_own hown'
        have hown : w.ownsRow w1.heap.size 5 1 (.slice ad (0 + 1) c) (0 + 1) (([UInt8.ofNat (128 + nb (mag n₀)) ^^^ flip n₀]).map B) := by
          exact hown'
        clear hown'
        refine ls hk rfl rfl rfl (e_assign hk rfl _) fun a hk => ?_
        refine lnil (hJ11 _ _ ⟨_, _, hk.sub _ ⟨rfl, rfl, rfl, rfl, trivial⟩, hB, hCC, hown⟩)
      · have hneg : n₀ < 0 := by have := of_decide_eq_false hb; omega
        refine wp_region_lit ?_
        refine ls hk rfl rfl rfl (e_move hk rfl _) fun a hk => ?_
        refine ls hk rfl rfl rfl (e_move hk rfl _) fun a hk => ?_
        refine ls hk rfl rfl rfl (e_sub hk rfl rfl (i64 (by omega) (by omega)) _) fun a hk => ?_
        refine ls hk rfl rfl rfl (e_conv hk rfl Tryd.underlying3 Tryd.underlying5 (i_b _) _) fun a hk => ?_
        rw [head_neg n₀ hneg] at hk
        refine la hk rfl (a_lit (cells := #[B (UInt8.ofNat (128 + nb (mag n₀)) ^^^ flip n₀)]) (zv := .int .u8 0) (sz := 1) (by_ := 1) hk rfl rfl Tryd.underlying22 el5 (by decide) (by decide) (lit1 _ _ rfl) rfl fun a w bl hk GL => ?_)
        have hB := ext_trans hB GL.ext
        have hown := own_ext hown GL.ext
        have hRd := lit_byte _ GL
        have hCC := Nat.le_trans hCC GL.ext.size
        clear GL
        refine la hk rfl (a_app hk rfl rfl hown rfl hRd (bytes_one _) Tryd.underlying22 el5 rfl (by decide) (by omega) (by omega) hCC fun a w v hk hown' hKp => ?_)
        have hB := kept_below hKp hB hown (Nat.le_refl _) hCC
        have hCC := Nat.le_trans hCC hKp.size
        clear hown hRd hKp
        obtain ⟨ad, c, rfl, _, _⟩ := Rd.of_own hown'
        have hown : w.ownsRow w1.heap.size 5 1 (.slice ad (0 + 1) c) (0 + 1) (([UInt8.ofNat (128 + nb (mag n₀)) ^^^ flip n₀]).map B) := by
          exact hown'
        clear hown'
        refine ls hk rfl rfl rfl (e_assign hk rfl _) fun a hk => ?_
        refine lnil (hJ11 _ _ ⟨_, _, hk.sub _ ⟨rfl, rfl, rfl, rfl, trivial⟩, hB, hCC, hown⟩)
  refine wp_seq_k fun K22 hK22 => ?_
  refine wp_region_lit ?_
  refine ls hk rfl rfl rfl (e_move hk rfl _) fun a hk => ?_
  refine ls hk rfl rfl rfl (e_lss hk rfl rfl rfl _) fun a hk => ?_
  refine lnil (hK22 _ _ ?_)
  refine cdB hk rfl (fun hb => ?_) (fun hb => ?_)
  · have hneg : n₀ < 0 := by have := of_decide_eq_true hb; omega
    refine wp_region_lit ?_
    refine ls hk rfl rfl rfl (e_move hk rfl _) fun a hk => ?_
    refine ls hk rfl rfl rfl (e_sub (q := ((mag n₀ : Nat) : Int)) hk rfl rfl (by rw [i64 (by omega) (by omega)]; unfold mag; rw [if_pos hneg]; omega) _) fun a hk => ?_
    refine ls hk rfl rfl rfl (e_assign hk rfl _) fun a hk => ?_
    refine lnil (hJ3 _ _ ⟨by first | exact hk.sub _ ⟨rfl, rfl, trivial⟩ | exact hk.sub _ ⟨rfl, by rw [show ((mag n₀ : Nat) : Int) = n₀ by unfold mag; rw [if_neg hneg]; omega]; rfl, trivial⟩, hB⟩)
  · have hneg : ¬ n₀ < 0 := by have := of_decide_eq_false hb; omega
    refine wp_skip (hJ3 _ _ ⟨by first | exact hk.sub _ ⟨rfl, rfl, trivial⟩ | exact hk.sub _ ⟨rfl, by rw [show ((mag n₀ : Nat) : Int) = n₀ by unfold mag; rw [if_neg hneg]; omega]; rfl, trivial⟩, hB⟩)

end Go.Proofs.YtidfbboalbchiaaDoor

namespace Go.Proofs.YtidfbboalbchiaaDoor
open Go Go.RowKit

set_option maxRecDepth 4000 in
set_option maxHeartbeats 1000000 in
theorem c91 (s : List UInt8) (w0 : World) (h : s.length ≤ 70368744177664) :
    Calls Tryd.prog 91 #[Str s] w0 fun e w' => ∃ ad c, e = .returned (.slice ad (encB s).length c) ∧ w'.ownsRow w0.heap.size 5 1 (.slice ad (encB s).length c) (encB s).length ((encB s).map B) ∧ Ext w0 w' := by
  refine start 9 Tryd.func91 rfl rfl rfl fun a hk => ?_
  have hB : Ext w0 w0 := Below.refl _ _
  refine wp_seq_k fun K1 hK1 => ?_
  refine wp_region_lit ?_
  refine ls hk rfl rfl rfl (e_assign hk rfl _) fun a hk => ?_
  refine lnil (hK1 _ _ ?_)
  refine wp_seq_k fun K2 hK2 => ?_
  refine wp_region_lit ?_
  refine ls hk rfl rfl rfl (e_move hk rfl _) fun a hk => ?_
  refine ls hk rfl rfl rfl (e_lenStr hk rfl Tryd.underlying9 _) fun a hk => ?_
  have hB0 := hB
  refine la hk rfl (a_call hk rfl rfl (c_fn hk rfl ok118) (c118 (s.length : Int) _ (by omega) (by omega)) ?_)
  rintro e w ⟨ad, c, rfl, hown, hE⟩
  refine ⟨_, rfl, fun a hk => ?_⟩
  have hB := ext_trans hB hE
  have hown := own_mono hown hB0.size
  clear hE
  refine ls hk rfl rfl rfl (e_move hk rfl _) fun a hk => ?_
  refine la hk rfl (a_bytes hk rfl rfl Tryd.underlying9 Tryd.underlying22 Tryd.underlying5 fun a w bb cc hk hgb hE hRb => ?_)
  have hown := own_ext hown hE
  have hB := ext_trans hB hE
  have hl8 := length_encI_le (s.length : Int)
  refine la hk rfl (a_app (news := s.map B) hk rfl rfl hown rfl hRb (bytes_one s) Tryd.underlying22 el5 rfl (by decide) (by omega) (by omega) hB.size fun a w v hk hown' hKp => ?_)
  have hB := kept_below hKp hB hown (Nat.le_refl _) hB.size
  clear hown hRb hKp
  obtain ⟨ad, c, rfl, _, _⟩ := Rd.of_own hown'
  have hl : (encI (s.length : Int)).length + s.length = (encB s).length := by rw [encB, List.length_append]
  rw [hl] at hk hown'
  have hown : w.ownsRow w0.heap.size 5 1 (.slice ad (encB s).length c) (encB s).length ((encB s).map B) := by rw [encB, List.map_append]; exact hown'
  refine ls hk rfl rfl rfl (e_assign hk rfl _) fun a hk => ?_
  refine lnil (hK2 _ _ ?_)
  refine wp_ret ?_
  exact ret1 hk rfl rfl ⟨ad, c, rfl, hown, hB⟩

set_option maxRecDepth 4000 in
set_option maxHeartbeats 1000000 in
theorem c42 (n₀ : Int) (ps : List (List UInt8)) (ad0 : Option Addr) (c0 : Nat) (w0 : World) (hR : Rs w0 ad0 ps.length c0 ps) (hn : ps.length ≤ 1000000) (hlen : ∀ x ∈ ps, x.length ≤ 1000000) :
    Calls Tryd.prog 42 #[I n₀, .slice ad0 ps.length c0] w0 fun e w' => ∃ ad c, e = .returned (.slice ad (ofIn n₀ ps).length c) ∧ w'.ownsRow w0.heap.size 5 1 (.slice ad (ofIn n₀ ps).length c) (ofIn n₀ ps).length ((ofIn n₀ ps).map B) ∧ Ext w0 w' := by
  refine start 24 Tryd.func42 rfl rfl rfl fun a hk => ?_
  have hB : Ext w0 w0 := Below.refl _ _
  refine wp_seq_k fun K1 hK1 => ?_
  refine wp_region_lit ?_
  refine ls hk rfl rfl rfl (e_assign hk rfl _) fun a hk => ?_
  refine lnil (hK1 _ _ ?_)
  refine wp_seq_k fun K2 hK2 => ?_
  refine wp_region_lit ?_
  refine ls hk rfl rfl rfl (e_move hk rfl _) fun a hk => ?_
  refine ls hk rfl rfl rfl (e_conv hk rfl Tryd.underlying3 Tryd.underlying5 (i_b _) _) fun a hk => ?_
  refine la hk rfl (a_lit (cells := #[B (byteOf n₀)]) (zv := .int .u8 0) (sz := 1) (by_ := 1) hk rfl rfl Tryd.underlying22 el5 (by decide) (by decide) (lit1 _ _ rfl) rfl fun a w bl hk GL => ?_)
  have hB := ext_trans hB GL.ext
  have hown : w.ownsRow w0.heap.size 5 1 (.slice (some ⟨bl, 0, none⟩) 1 1) 1 ([byteOf n₀].map B) := own_mono (lit_own (n := 1) (sz := 1) GL rfl (by decide)) (Nat.le_refl _)
  clear GL
  refine ls hk rfl rfl rfl (e_assign hk rfl _) fun a hk => ?_
  refine lnil (hK2 _ _ ?_)
  refine wp_seq_k fun K3 hK3 => ?_
  refine wp_seq_k fun K4 hK4 => ?_
  refine wp_region_lit ?_
  refine ls hk rfl rfl rfl (e_assign hk rfl _) fun a hk => ?_
  refine lnil (hK4 _ _ ?_)
  refine wp_block ?_
  refine loopN (fun n a w => ∃ j : Nat, ∃ (ad : Option Addr) (c : Nat), n = ps.length - j ∧ j ≤ ps.length ∧ Kn a 24 [(1, .slice ad0 ps.length c0), (5, .slice ad (byteOf n₀ :: ((ps.take (j)).map encB).flatten).length c), (6, I j)] ∧ (Ext w0 w) ∧ (w.ownsRow w0.heap.size 5 1 (.slice ad (byteOf n₀ :: ((ps.take (j)).map encB).flatten).length c) (byteOf n₀ :: ((ps.take (j)).map encB).flatten).length ((byteOf n₀ :: ((ps.take (j)).map encB).flatten).map B))) (ps.length - 0) ?_ fun n a w hI => ?_
  · exact ⟨0, some ⟨bl, 0, none⟩, 1, rfl, by omega, hk.sub _ ⟨rfl, rfl, rfl, trivial⟩, hB, hown⟩
  clear hk hB
  obtain ⟨j, ad, c, rfl, hi_le, hk, hB, hown⟩ := hI
  refine wp_seq_k fun K5 hK5 => ?_
  refine wp_seq_k fun K6 hK6 => ?_
  refine wp_region_lit ?_
  refine ls hk rfl rfl rfl (e_move hk rfl _) fun a hk => ?_
  refine ls hk rfl rfl rfl (e_move hk rfl _) fun a hk => ?_
  refine ls hk rfl rfl rfl (e_lenS hk rfl Tryd.underlying27 _) fun a hk => ?_
  refine ls hk rfl rfl rfl (e_lss hk rfl rfl rfl _) fun a hk => ?_
  refine lnil (hK6 _ _ ?_)
  refine cdB hk rfl (fun hb => ?_) (fun hb => ?_)
  · have hjl : j < ps.length := by have := of_decide_eq_true hb; omega
    obtain ⟨x, hx⟩ : ∃ x, ps[j]? = some x := ⟨_, List.getElem?_eq_getElem hjl⟩
    obtain ⟨bp, op, rfl, hcell⟩ := Rs.get (Rd.below hR hB (Nat.le_refl _)) j x hx
    have hxl := hlen x (List.mem_of_getElem? hx)
    have hml := mlen (b := byteOf n₀) ps hlen j
    have hel := length_encB x
    refine wp_skip (hK5 _ _ ?_)
    refine wp_seq_k fun K7 hK7 => ?_
    refine wp_block ?_
    refine wp_region_lit ?_
    refine ls hk rfl rfl rfl (e_move hk rfl _) fun a hk => ?_
    refine ls hk rfl rfl rfl (e_move hk rfl _) fun a hk => ?_
    refine ls hk rfl rfl rfl (e_move hk rfl _) fun a hk => ?_
    refine ls hk rfl rfl rfl (e_idxS1 j hk rfl rfl Tryd.underlying27 sz9 rfl hjl _) fun a hk => ?_
    refine ls hk rfl rfl rfl (r_load1 (v := Str x) hk rfl Tryd.underlying9 rfl hcell) fun a hk => ?_
    refine la hk rfl (a_call hk rfl rfl (c_fn hk rfl ok91) (c91 x _ (by omega)) ?_)
    rintro e w ⟨ad2, c2, rfl, hown2, hE⟩
    refine ⟨_, rfl, fun a hk => ?_⟩
    have hB := ext_trans hB hE
    have hown := own_ext hown hE
    obtain ⟨_, _, hv, _, hR2⟩ := Rd.of_own hown2
    cases hv
    clear hE
    refine la hk rfl (a_app (news := (encB x).map B) hk rfl rfl hown rfl hR2 (bytes_one _) Tryd.underlying22 el5 rfl (by decide) (by omega) (by omega) hB.size fun a w v hk hown' hKp => ?_)
    have hB := kept_below hKp hB hown (Nat.le_refl _) hB.size
    clear hown hR2 hKp hown2
    obtain ⟨ad3, c3, rfl, _, _⟩ := Rd.of_own hown'
    rw [← List.length_append, List.cons_append, ← flat_take _ _ _ hx] at hk hown'
    rw [← List.map_append, List.cons_append, ← flat_take _ _ _ hx] at hown'
    have hown := hown'
    clear hown'
    refine ls hk rfl rfl rfl (e_assign hk rfl _) fun a hk => ?_
    refine lnil (hK7 _ _ ?_)
    refine wp_region_lit ?_
    refine ls hk rfl rfl rfl (e_move hk rfl _) fun a hk => ?_
    refine ls hk rfl rfl rfl (e_add hk rfl rfl (i64 (by omega) (by omega)) _) fun a hk => ?_
    refine ls hk rfl rfl rfl (e_assign hk rfl _) fun a hk => ?_
    refine lnil (show ∃ m : Nat, m < _ ∧ _ from ⟨ps.length - (j + 1), by omega, j + 1, _, _, rfl, by omega, hk.sub _ ⟨rfl, rfl, rfl, trivial⟩, hB, hown⟩)
  · have hjl : j = ps.length := by have := of_decide_eq_false hb; omega
    subst hjl
    rw [List.take_length] at hk hown
    refine wp_exit (hK3 _ _ ?_)
    refine wp_seq_k fun K8 hK8 => ?_
    refine wp_region_lit ?_
    refine ls hk rfl rfl rfl (e_move hk rfl _) fun a hk => ?_
    refine ls hk rfl rfl rfl (e_assign hk rfl _) fun a hk => ?_
    refine lnil (hK8 _ _ ?_)
    refine wp_ret ?_
    exact ret1 hk rfl rfl ⟨ad, c, rfl, hown, hB⟩

theorem byte_at (l : List UInt8) (i : Nat) (h : i < l.length) : (l.map B).toArray[0 + i]? = some (B (l.getD i 0)) := by simp [h]
/-- The first i of 16 bytes, the others zero. -/
def part16 (l : List UInt8) (i : Nat) : List UInt8 := l.take i ++ List.replicate (16 - i) 0
theorem length_part16 (l : List UInt8) (i : Nat) (hl : 16 ≤ l.length) (hi : i ≤ 16) : (part16 l i).length = 16 := by simp [part16]; omega
theorem part16_zero (l : List UInt8) : part16 l 0 = zD := by simp [part16, zD]
theorem part16_set (l : List UInt8) (i : Nat) (hl : 16 ≤ l.length) (hi : i < 16) : ((part16 l i).map B).toArray.setIfInBounds (0 + i) (B (l.getD i 0)) = ((part16 l (i + 1)).map B).toArray := by
  have e : part16 l i = l.take i ++ [0] ++ List.replicate (16 - (i + 1)) 0 := by
    rw [part16, show 16 - i = (16 - (i + 1)) + 1 by omega, List.replicate_succ]; simp
  have hi' : i < l.length := by omega
  rw [e, bytes_set _ _ _ _ _ (by simp; omega), part16, List.take_add_one, List.getElem?_eq_getElem hi']
  simp [List.getD_eq_getElem?_getD, hi']
theorem part16_all (l : List UInt8) : part16 l 16 = l.take 16 := by simp [part16]

set_option maxRecDepth 4000 in
set_option maxHeartbeats 1000000 in
theorem c74 (m : List UInt8) (ad0 : Option Addr) (c0 : Nat) (w0 : World) (hR : Rd w0 ad0 m.length c0 1 (m.map B)) (hGR : GR w0) (hl : m.length ≤ 1000000000) :
    Calls Tryd.prog 74 #[.slice ad0 m.length c0] w0 fun e w' => e = .returned (D ((sha m).take 16)) ∧ Ext w0 w' := by
  refine start 19 Tryd.func74 rfl rfl rfl fun a hk => ?_
  have hB : Ext w0 w0 := Below.refl _ _
  refine wp_seq_k fun K1 hK1 => ?_
  refine wp_region_lit ?_
  refine la hk rfl (a_alloc hk rfl zr44 fun a w b2 hk G => ?_)
  have hg_b2 : w0.heap.size ≤ b2 := Nat.le_trans hB.size G.ge
  have hB := ext_trans hB G.ext
  have h_b2 := G.at_
  clear G
  refine lnil (hK1 _ _ ?_)
  refine wp_seq_k fun K2 hK2 => ?_
  refine wp_region_lit ?_
  refine ls hk rfl rfl rfl (e_move hk rfl _) fun a hk => ?_
  refine la hk rfl (a_call hk rfl rfl (c_fn hk rfl ok24) (c24 m ad0 c0 _ (hR.ext hB) (hGR.ext hB) hl) ?_)
  rintro e w ⟨rfl, hE⟩
  refine ⟨_, rfl, fun a hk => ?_⟩
  have h_b2 := ext_at hE h_b2
  have hB := ext_trans hB hE
  clear hE
  refine la hk rfl (a_alloc hk rfl zr24 fun a w b3 hk G => ?_)
  have n_b2_b3 : b2 ≠ b3 := G.ne h_b2
  have hg_b3 : w0.heap.size ≤ b3 := Nat.le_trans hB.size G.ge
  have h_b2 := ext_at G.ext h_b2
  have hB := ext_trans hB G.ext
  have h_b3 := G.at_
  clear G
  refine la hk rfl (a_storeB hk rfl rfl (bytes_oneA _) (by rw [sz24]; simp [length_sha]) h_b3 (by simp [length_sha, Value.cells]) fun a w hk W => ?_)
  have h_b2 := W.keep n_b2_b3 h_b2
  have hB := W.below hB hg_b3
  have h_b3 := W.at_
  clear W
  refine lnil (hK2 _ _ ?_)
  refine wp_seq_k fun K3 hK3 => ?_
  refine wp_region_lit ?_
  refine ls hk rfl rfl rfl (e_zero44 hk _) fun a hk => ?_
  refine la hk rfl (a_alloc hk rfl zr44 fun a w b4 hk G => ?_)
  have n_b2_b4 : b2 ≠ b4 := G.ne h_b2
  have n_b3_b4 : b3 ≠ b4 := G.ne h_b3
  have hg_b4 : w0.heap.size ≤ b4 := Nat.le_trans hB.size G.ge
  have h_b2 := ext_at G.ext h_b2
  have h_b3 := ext_at G.ext h_b3
  have hB := ext_trans hB G.ext
  have h_b4 := G.at_
  clear G
  refine la hk rfl (a_st44 hk rfl rfl rfl h_b4 rfl fun a w hk W => ?_)
  have h_b2 := W.keep n_b2_b4 h_b2
  have h_b3 := W.keep n_b3_b4 h_b3
  have hB := W.below hB hg_b4
  have h_b4 := W.at_
  clear W
  rw [← part16_zero (sha m)] at h_b4
  have hs : (sha m).length = 32 := length_sha m
  have hz2 : ∃ cs : Array Value, cs.size = 16 ∧ w.heap[b2]? = some (.cells cs 44 (0, 0)) := ⟨_, rfl, h_b2⟩
  clear h_b2
  obtain ⟨cs2, hz2, h_b2⟩ := hz2
  refine lnil (hK3 _ _ ?_)
  refine wp_seq_k fun K4 hK4 => ?_
  refine wp_seq_k fun K5 hK5 => ?_
  refine wp_region_lit ?_
  refine ls hk rfl rfl rfl (e_assign hk rfl _) fun a hk => ?_
  refine lnil (hK5 _ _ ?_)
  refine wp_block ?_
  refine loopN (fun n a w => ∃ i : Nat, n = 16 - i ∧ i ≤ 16 ∧ Kn a 19 [(2, .pointer (some ⟨b2, 0, none⟩)), (3, .pointer (some ⟨b3, 0, none⟩)), (4, .pointer (some ⟨b4, 0, none⟩)), (5, I i)] ∧ (Ext w0 w) ∧ (w.heap[b2]? = some (.cells cs2 44 (0, 0))) ∧ (w.heap[b3]? = some (.cells ((sha m).map B).toArray 24 (0, 0))) ∧ (w.heap[b4]? = some (.cells ((part16 (sha m) i).map B).toArray 44 (0, 0)))) (16 - 0) ?_ fun n a w hI => ?_
  · exact ⟨0, rfl, by omega, hk.sub _ ⟨rfl, rfl, rfl, rfl, trivial⟩, hB, h_b2, h_b3, h_b4⟩
  clear hk hB h_b2 h_b3 h_b4
  obtain ⟨i, rfl, hi_le, hk, hB, h_b2, h_b3, h_b4⟩ := hI
  refine wp_seq_k fun K6 hK6 => ?_
  refine wp_seq_k fun K7 hK7 => ?_
  refine wp_region_lit ?_
  refine ls hk rfl rfl rfl (e_move hk rfl _) fun a hk => ?_
  refine ls hk rfl rfl rfl (e_lss hk rfl rfl rfl _) fun a hk => ?_
  refine lnil (hK7 _ _ ?_)
  refine cdB hk rfl (fun hb => ?_) (fun hb => ?_)
  · have hi : i < 16 := by have := of_decide_eq_true hb; omega
    refine wp_skip (hK6 _ _ ?_)
    refine wp_seq_k fun K8 hK8 => ?_
    refine wp_block ?_
    refine wp_region_lit ?_
    refine ls hk rfl rfl rfl (e_move hk rfl _) fun a hk => ?_
    refine ls hk rfl rfl rfl (e_move hk rfl _) fun a hk => ?_
    refine ls hk rfl rfl rfl (e_idxA1 i hk rfl rfl Tryd.underlying24 sz5 rfl (by omega) _) fun a hk => ?_
    refine ls hk rfl rfl rfl (r_load hk rfl Tryd.underlying5 rfl h_b3 (byte_at _ i (by omega))) fun a hk => ?_
    refine ls hk rfl rfl rfl (e_idxA1 i hk rfl rfl Tryd.underlying44 sz5 rfl hi _) fun a hk => ?_
    refine la hk rfl (a_store hk rfl rfl rfl sz5 h_b4 (by simp [length_part16, hs, hi_le]; omega) fun a w hk W => ?_)
    have h_b2 := W.keep n_b2_b4 h_b2
    have h_b3 := W.keep n_b3_b4 h_b3
    have hB := W.below hB hg_b4
    have h_b4 := W.at_
    clear W
    rw [part16_set (sha m) i (by omega) hi] at h_b4
    refine lnil (hK8 _ _ ?_)
    refine wp_region_lit ?_
    refine ls hk rfl rfl rfl (e_move hk rfl _) fun a hk => ?_
    refine ls hk rfl rfl rfl (e_add hk rfl rfl (i64 (by omega) (by omega)) _) fun a hk => ?_
    refine ls hk rfl rfl rfl (e_assign hk rfl _) fun a hk => ?_
    refine lnil (show ∃ m : Nat, m < _ ∧ _ from ⟨16 - (i + 1), by omega, i + 1, rfl, by omega, hk.sub _ ⟨rfl, rfl, rfl, rfl, trivial⟩, hB, h_b2, h_b3, h_b4⟩)
  · have hi : i = 16 := by have := of_decide_eq_false hb; omega
    subst hi
    rw [part16_all] at h_b4
    refine wp_exit (hK4 _ _ ?_)
    refine wp_seq_k fun K9 hK9 => ?_
    refine wp_region_lit ?_
    refine ls hk rfl rfl rfl (r_ld44 hk rfl h_b4 (by simp [hs])) fun a hk => ?_
    refine la hk rfl (a_st44 hk rfl rfl (by simp [hs]) h_b2 hz2 fun a w hk W => ?_)
    have h_b3 := W.keep (Ne.symm n_b2_b3) h_b3
    have h_b4 := W.keep (Ne.symm n_b2_b4) h_b4
    have hB := W.below hB hg_b2
    have h_b2 := W.at_
    clear W
    refine lnil (hK9 _ _ ?_)
    refine wp_ret ?_
    exact ret44 hk rfl rfl h_b2 (by simp [hs]) ⟨rfl, hB⟩

set_option maxRecDepth 4000 in
set_option maxHeartbeats 1000000 in
theorem c36 (n₀ : Int) (ps : List (List UInt8)) (ad0 : Option Addr) (c0 : Nat) (w0 : World) (hR : Rs w0 ad0 ps.length c0 ps) (hGR : GR w0) (hn : ps.length ≤ 900) (hlen : ∀ x ∈ ps, x.length ≤ 1000000) :
    Calls Tryd.prog 36 #[I n₀, .slice ad0 ps.length c0] w0 fun e w' => e = .returned (D (ofD n₀ ps)) ∧ Ext w0 w' := by
  refine start 9 Tryd.func36 rfl rfl rfl fun a hk => ?_
  have hB : Ext w0 w0 := Below.refl _ _
  refine wp_seq_k fun K1 hK1 => ?_
  refine wp_region_lit ?_
  refine la hk rfl (a_alloc hk rfl zr44 fun a w b4 hk G => ?_)
  have hg_b4 : w0.heap.size ≤ b4 := Nat.le_trans hB.size G.ge
  have hB := ext_trans hB G.ext
  have h_b4 := G.at_
  clear G
  refine lnil (hK1 _ _ ?_)
  refine wp_seq_k fun K2 hK2 => ?_
  refine wp_region_lit ?_
  refine ls hk rfl rfl rfl (e_move hk rfl _) fun a hk => ?_
  refine ls hk rfl rfl rfl (e_move hk rfl _) fun a hk => ?_
  refine la hk rfl (a_call hk rfl rfl (c_fn hk rfl ok42) (c42 n₀ ps ad0 c0 _ (Rd.ext hR hB) (by omega) hlen) ?_)
  rintro e w ⟨ad2, c2, rfl, hown2, hE⟩
  refine ⟨_, rfl, fun a hk => ?_⟩
  have h_b4 := ext_at hE h_b4
  have hB := ext_trans hB hE
  obtain ⟨_, _, hv, _, hR2⟩ := Rd.of_own hown2
  cases hv
  have hml := mlen (b := byteOf n₀) ps hlen ps.length
  rw [List.take_length] at hml
  clear hE
  refine la hk rfl (a_call hk rfl rfl (c_fn hk rfl ok74) (c74 (ofIn n₀ ps) ad2 c2 _ hR2 (hGR.ext hB) (by rw [ofIn]; omega)) ?_)
  rintro e w ⟨rfl, hE⟩
  refine ⟨_, rfl, fun a hk => ?_⟩
  have h_b4 := ext_at hE h_b4
  have hB := ext_trans hB hE
  clear hE
  refine la hk rfl (a_st44 hk rfl rfl (by simp [length_sha]) h_b4 rfl fun a w hk W => ?_)
  have hB := W.below hB hg_b4
  have h_b4 := W.at_
  clear W
  refine lnil (hK2 _ _ ?_)
  refine wp_ret ?_
  exact ret44 hk rfl rfl h_b4 (by simp [length_sha]) ⟨rfl, hB⟩

end Go.Proofs.YtidfbboalbchiaaDoor

namespace Go.Proofs.YtidfbboalbchiaaDoor
open Go Go.ChangeShapes Go.WideShapes Go.ChangeAt Go.RowKit

theorem u8_wf {n : Int} (h : (Lit.int .u8 n).wf = true) : Value.int .u8 n = B (UInt8.ofNat n.toNat) := by
  have h1 : 0 ≤ n ∧ n ≤ 255 := by simpa [Lit.wf, IntKind.min, IntKind.max, IntKind.signed, IntKind.bits] using h
  have e : (UInt8.ofNat n.toNat).toNat = n.toNat % 2 ^ 8 := rfl
  have h2 : ((UInt8.ofNat n.toNat).toNat : Int) = n := by rw [e]; omega
  show Value.int .u8 n = Value.int .u8 ((UInt8.ofNat n.toNat).toNat : Int)
  rw [h2]
theorem rd_ints {w : World} {x : Addr} {len cap : Nat} {zs : List Int} (hl : len ≤ cap) (hz : zs.length = cap) (hcell : ∀ i, i < zs.length → w.cell? (x.add i) = some (.int .u8 (zs.getD i 0))) (hwz : ∀ n ∈ zs, (Lit.int .u8 n).wf = true) :
    ∃ m : List UInt8, m.length = len ∧ Rd w (some x) len cap 1 (m.map B) := by
  refine ⟨(zs.take len).map fun n => UInt8.ofNat n.toNat, by simp; omega, by simp; omega, hl, fun i u hu => ?_⟩
  obtain ⟨b, off, spot⟩ := x
  have hi : i < len := by
    have := (List.getElem?_eq_some_iff.1 hu).1
    simp at this; omega
  have hc := hcell i (by omega)
  have hspot : spot = none := by simpa [Addr.add] using World.cell?_spot (hcell 0 (by omega))
  subst hspot
  rw [Addr.add_lit] at hc
  refine ⟨b, off, rfl, ?_⟩
  rw [hc]
  have hzi : i < zs.length := by omega
  have hv : zs.getD i 0 = zs[i] := by simp [hzi]
  rw [hv, u8_wf (hwz _ (List.getElem_mem hzi)), ← hu]
  simp [hi, hzi]
end Go.Proofs.YtidfbboalbchiaaDoor

namespace Go.Proofs.YtidfbboalbchiaaDoor
open Go Go.ChangeShapes Go.WideShapes Go.ChangeAt Go.RowKit

theorem rs_in {w : World} {x : Addr} {len cap : Nat} {ss : List ByteArray} (hl : len ≤ cap) (hz : ss.length = cap) (hcell : ∀ i, i < ss.length → w.cell? (x.add i) = some (.string (ss.getD i ByteArray.empty))) :
    ∃ ps : List (List UInt8), ps.length = len ∧ Rs w (some x) len cap ps := by
  refine ⟨(ss.take len).map fun s => s.data.toList, by simp; omega, by simp; omega, hl, fun i u hu => ?_⟩
  obtain ⟨b, off, spot⟩ := x
  have hi : i < len := by
    have := (List.getElem?_eq_some_iff.1 hu).1
    simp at this; omega
  have hc := hcell i (by omega)
  have hspot : spot = none := by simpa [Addr.add] using World.cell?_spot (hcell 0 (by omega))
  subst hspot
  rw [Addr.add_lit] at hc
  refine ⟨b, off, rfl, ?_⟩
  rw [hc]
  have hzi : i < ss.length := by omega
  have hv : ss.getD i ByteArray.empty = ss[i] := by simp [hzi]
  rw [hv, ← hu]
  simp [hi, hzi]
/-- The numbers of an int slice. -/
def Ri (w : World) (ad : Option Addr) (n c : Nat) (l : List Int) : Prop := Rd w ad n c 1 (l.map I)
def is64 (n : Int) : Prop := -9223372036854775808 ≤ n ∧ n ≤ 9223372036854775807
theorem i64_wf {n : Int} (h : (Lit.int .i64 n).wf = true) : is64 n := by
  simpa [Lit.wf, IntKind.min, IntKind.max, IntKind.signed, IntKind.bits, is64] using h
theorem ri_in {w : World} {x : Addr} {len cap : Nat} {zs : List Int} (hl : len ≤ cap) (hz : zs.length = cap) (hcell : ∀ i, i < zs.length → w.cell? (x.add i) = some (.int .i64 (zs.getD i 0))) (hwz : ∀ n ∈ zs, (Lit.int .i64 n).wf = true) :
    ∃ l : List Int, l.length = len ∧ Ri w (some x) len cap l ∧ ∀ n ∈ l, is64 n := by
  refine ⟨zs.take len, by simp; omega, ⟨by simp; omega, hl, fun i u hu => ?_⟩, fun n hn => i64_wf (hwz n (List.mem_of_mem_take hn))⟩
  obtain ⟨b, off, spot⟩ := x
  have hi : i < len := by
    have := (List.getElem?_eq_some_iff.1 hu).1
    simp at this; omega
  have hc := hcell i (by omega)
  have hspot : spot = none := by simpa [Addr.add] using World.cell?_spot (hcell 0 (by omega))
  subst hspot
  rw [Addr.add_lit] at hc
  refine ⟨b, off, rfl, ?_⟩
  rw [hc]
  have hzi : i < zs.length := by omega
  have hv : zs.getD i 0 = zs[i] := by simp [hzi]
  rw [hv, ← hu]
  simp [hi, hzi]
theorem u8s_of : ∀ cs : List Value, (∀ i, i < cs.length → ∃ n, cs[i]? = some (.int .u8 n) ∧ (Lit.int .u8 n).wf = true) → ∃ l : List UInt8, cs = l.map B := by
  intro cs
  induction cs with
  | nil => intro _; exact ⟨[], rfl⟩
  | cons v r ih =>
    intro h
    obtain ⟨n, h0, hw⟩ := h 0 (by simp)
    obtain ⟨l, rfl⟩ := ih fun i hi => by
      have := h (i + 1) (by simp; omega)
      simpa using this
    refine ⟨UInt8.ofNat n.toNat :: l, ?_⟩
    have : v = .int .u8 n := by simpa using h0
    rw [this, u8_wf hw]; rfl
theorem i64s_of : ∀ cs : List Value, (∀ i, i < cs.length → ∃ n, cs[i]? = some (.int .i64 n) ∧ (Lit.int .i64 n).wf = true) → ∃ l : List Int, cs = l.map I ∧ ∀ n ∈ l, is64 n := by
  intro cs
  induction cs with
  | nil => intro _; exact ⟨[], rfl, by simp⟩
  | cons v r ih =>
    intro h
    obtain ⟨n, h0, hw⟩ := h 0 (by simp)
    obtain ⟨l, rfl, hl⟩ := ih fun i hi => by
      have := h (i + 1) (by simp; omega)
      simpa using this
    refine ⟨n :: l, ?_, ?_⟩
    · have : v = .int .i64 n := by simpa using h0
      rw [this]; rfl
    · intro m hm
      rcases List.mem_cons.1 hm with rfl | hm
      · exact i64_wf hw
      · exact hl m hm
/-- An array's numbers. -/
theorem arr_each {H : Type} {enc : TypeId × Value → H} {P : Program} {w : World} {base fuel n : Nat} {sp : Nat → Bool} {held : Bool} {t e : TypeId} {k : IntKind} {cs : List Value} {x : DataW H × List MemPlace} (ht : P.underlying t = some (.array n e)) (he : P.underlying e = some (.int k)) (hc : P.cellsOf e = 1) (hn : P.cellsOf t = n)
    (h : DataW.trod enc P w base sp held fuel t cs = some x) : cs.length = n ∧ ∀ i, i < cs.length → ∃ m, cs[i]? = some (.int k m) ∧ (Lit.int k m).wf = true := by
  obtain ⟨xs, m, rfl, _, hl, hxl, hel⟩ := DataW.trod_array ht h
  rw [hn] at hl
  refine ⟨hl, fun i hi => ?_⟩
  have h1 := hel i (by omega)
  rw [hc, Nat.mul_one] at h1
  have h2 : xs[i]? = some (xs[i]'(by omega)) := List.getElem?_eq_getElem _
  rw [h2] at h1
  obtain ⟨z, e1, _, hw⟩ := DataW.trod_int he h1
  have h3 : ((cs.drop i).take 1)[0]? = some (.int k z) := by rw [e1]; rfl
  rw [List.getElem?_take, if_pos (by decide), List.getElem?_drop, Nat.add_zero] at h3
  exact ⟨z, h3, hw⟩
theorem c5' : Tryd.prog.cellsOf 5 = 1 := by kernel_rfl
theorem c3' : Tryd.prog.cellsOf 3 = 1 := by kernel_rfl
theorem c9' : Tryd.prog.cellsOf 9 = 1 := by kernel_rfl
theorem c44' : Tryd.prog.cellsOf 44 = 16 := by kernel_rfl
theorem c60' : Tryd.prog.cellsOf 60 = 2 := by kernel_rfl
theorem c66' : Tryd.prog.cellsOf 66 = 2 := by kernel_rfl
theorem okWide_array {P : Program} {W : World} {r : Reach} {b0 : Nat} {t e : TypeId} {n : Nat} {v : Value} (ht : P.underlying t = some (.array n e)) (h : Value.okWide P W r b0 t v) : ∃ xs : Array Value, v = .agg xs := by
  simp only [Value.okWide, ht] at h
  obtain ⟨cs, h1, _⟩ := h
  exact ⟨cs, h1⟩
end Go.Proofs.YtidfbboalbchiaaDoor

namespace Go.Proofs.YtidfbboalbchiaaDoor

theorem log2_is {m j : Nat} (h1 : 2 ^ j ≤ m) (h2 : m < 2 ^ (j + 1)) : Nat.log2 m = j := by
  have h0 : m ≠ 0 := by have := Nat.pow_pos (n := j) (show 0 < 2 by decide); omega
  have h3 : j ≤ Nat.log2 m := (Nat.le_log2 h0).2 h1
  have h4 : Nat.log2 m < j + 1 := (Nat.log2_lt h0).2 h2
  omega
theorem log2_bounds {m : Nat} (h0 : m ≠ 0) : 2 ^ Nat.log2 m ≤ m ∧ m < 2 ^ (Nat.log2 m + 1) := ⟨Nat.log2_self_le h0, Nat.lt_log2_self⟩
theorem log2_shift {m s : Nat} (h : 2 ^ s ≤ m) : Nat.log2 m = Nat.log2 (m / 2 ^ s) + s := by
  have hp := Nat.pow_pos (n := s) (show 0 < 2 by decide)
  have h0 : m / 2 ^ s ≠ 0 := by
    have := (Nat.le_div_iff_mul_le hp (x := 1) (y := m)).2 (by omega)
    omega
  obtain ⟨h1, h2⟩ := log2_bounds h0
  apply log2_is
  · rw [Nat.pow_add]
    exact (Nat.le_div_iff_mul_le hp).1 h1
  · rw [show Nat.log2 (m / 2 ^ s) + s + 1 = (Nat.log2 (m / 2 ^ s) + 1) + s by omega, Nat.pow_add]
    exact (Nat.div_lt_iff_lt_mul hp).1 h2
/-- The greatest power of 2 that is less than a number from 2 on. -/
def hlf (n : Nat) : Nat := 2 ^ Nat.log2 (n - 1)
theorem hlf_pos (n : Nat) : 0 < hlf n := Nat.pow_pos (by decide)
theorem hlf_lt {n : Nat} (h : 2 ≤ n) : hlf n < n := by
  have := (log2_bounds (m := n - 1) (by omega)).1
  unfold hlf; omega
theorem hlf_ge {n : Nat} (h : 2 ≤ n) : n ≤ 2 * hlf n := by
  have := (log2_bounds (m := n - 1) (by omega)).2
  rw [Nat.pow_succ] at this
  unfold hlf; omega
theorem hlf_is {n j : Nat} (h1 : j = 0 ∨ 2 ^ j < n) (h2 : n ≤ 2 * 2 ^ j) : hlf n = 2 ^ j := by
  unfold hlf
  by_cases hn : n ≤ 1
  · have : j = 0 := by
      rcases h1 with h | h
      · exact h
      · have := Nat.pow_pos (n := j) (show 0 < 2 by decide); omega
    subst this
    have : n - 1 = 0 := by omega
    rw [this]; rfl
  · congr 1
    apply log2_is
    · rcases h1 with h | h
      · subst h; simp; omega
      · omega
    · rw [Nat.pow_succ]; omega
/-- Half of a tree that fits into 2^(d+1) leaves fits into 2^d. -/
theorem hlf_le {n d : Nat} (h : 2 ≤ n) (hd : n ≤ 2 ^ (d + 1)) : hlf n ≤ 2 ^ d ∧ n - hlf n ≤ 2 ^ d := by
  have h1 : Nat.log2 (n - 1) ≤ d := by
    have h0 : n - 1 ≠ 0 := by omega
    have : Nat.log2 (n - 1) < d + 1 := (Nat.log2_lt h0).2 (by omega)
    omega
  have h2 : hlf n ≤ 2 ^ d := Nat.pow_le_pow_right (by decide) h1
  have := hlf_ge h
  exact ⟨h2, by omega⟩

/-- A leaf's root, two trees' root. -/
def leafS (s : List UInt8) : List UInt8 := ofD 1 [s]
def nodeS (a b : List UInt8) : List UInt8 := ofD 2 [a, b]
@[simp] theorem length_leafS (s : List UInt8) : (leafS s).length = 16 := length_ofD _ _
@[simp] theorem length_nodeS (a b : List UInt8) : (nodeS a b).length = 16 := length_ofD _ _
/-- The root of a list of leaves. -/
def rootS (ls : List (List UInt8)) : List UInt8 :=
  if _ : ls.length = 0 then ofD 2 []
  else if _ : ls.length = 1 then leafS (ls.getD 0 [])
  else nodeS (rootS (ls.take (hlf ls.length))) (rootS (ls.drop (hlf ls.length)))
termination_by ls.length
decreasing_by
  · have := hlf_lt (n := ls.length) (by omega); simp; omega
  · have := hlf_pos ls.length; simp; omega
@[simp] theorem length_rootS (ls : List (List UInt8)) : (rootS ls).length = 16 := by
  rw [rootS]; split
  · simp
  · split <;> simp
theorem rootS_nil : rootS [] = ofD 2 [] := by rw [rootS]; simp
theorem rootS_one (s : List UInt8) : rootS [s] = leafS s := by rw [rootS]; simp
theorem rootS_more {ls : List (List UInt8)} (h : 2 ≤ ls.length) : rootS ls = nodeS (rootS (ls.take (hlf ls.length))) (rootS (ls.drop (hlf ls.length))) := by
  rw [rootS, dif_neg (by omega), dif_neg (by omega)]
/-- The leaves from a place to another. -/
def cut (ls : List (List UInt8)) (a b : Nat) : List (List UInt8) := (ls.take b).drop a
theorem length_cut (ls : List (List UInt8)) (a b : Nat) (h : b ≤ ls.length) : (cut ls a b).length = b - a := by simp [cut]; omega
theorem cut_all (ls : List (List UInt8)) : cut ls 0 ls.length = ls := by simp [cut]
theorem cut_take (ls : List (List UInt8)) (a b k : Nat) (hk : a + k ≤ b) : (cut ls a b).take k = cut ls a (a + k) := by
  unfold cut
  rw [List.take_drop, List.take_take, Nat.min_eq_left (by omega)]
theorem cut_drop (ls : List (List UInt8)) (a b k : Nat) : (cut ls a b).drop k = cut ls (a + k) b := by
  unfold cut
  rw [List.drop_drop]
theorem cut_one (ls : List (List UInt8)) (a : Nat) (h : a < ls.length) : cut ls a (a + 1) = [ls.getD a []] := by
  apply List.ext_getElem
  · rw [length_cut _ _ _ (by omega)]; simp
  · intro i h1 h2
    have hi : i = 0 := by simp at h2; omega
    subst hi
    simp [cut, h]
/-- The root of an interval of leaves. -/
def rootI (ls : List (List UInt8)) (a b : Nat) : List UInt8 := rootS (cut ls a b)
@[simp] theorem length_rootI (ls : List (List UInt8)) (a b : Nat) : (rootI ls a b).length = 16 := length_rootS _
theorem rootI_one (ls : List (List UInt8)) (a : Nat) (h : a < ls.length) : rootI ls a (a + 1) = leafS (ls.getD a []) := by rw [rootI, cut_one ls a h, rootS_one]
theorem rootI_more (ls : List (List UInt8)) (a b : Nat) (h : 2 ≤ b - a) (hb : b ≤ ls.length) : rootI ls a b = nodeS (rootI ls a (a + hlf (b - a))) (rootI ls (a + hlf (b - a)) b) := by
  have h1 := hlf_lt h
  unfold rootI
  rw [rootS_more (by rw [length_cut _ _ _ hb]; exact h), length_cut _ _ _ hb, cut_take _ _ _ _ (by omega), cut_drop]

/-- The nodes of a walk that stop at a test: left to right. -/
def stopsS (st : Nat → Nat → Bool) (a b : Nat) : List (Nat × Nat) :=
  if st a b then [(a, b)] else if _ : 2 ≤ b - a then stopsS st a (a + hlf (b - a)) ++ stopsS st (a + hlf (b - a)) b else []
termination_by b - a
decreasing_by
  · have := hlf_lt (n := b - a) ‹_›; omega
  · have := hlf_pos (b - a); omega
theorem stops_stop {st : Nat → Nat → Bool} {a b : Nat} (h : st a b = true) : stopsS st a b = [(a, b)] := by rw [stopsS, if_pos h]
theorem stops_one {st : Nat → Nat → Bool} {a b : Nat} (h : st a b = false) (h1 : b - a ≤ 1) : stopsS st a b = [] := by
  rw [stopsS, if_neg (by simp [h]), dif_neg (by omega)]
theorem stops_more {st : Nat → Nat → Bool} {a b : Nat} (h : st a b = false) (h1 : 2 ≤ b - a) : stopsS st a b = stopsS st a (a + hlf (b - a)) ++ stopsS st (a + hlf (b - a)) b := by
  rw [stopsS, if_neg (by simp [h]), dif_pos h1]
/-- Induction over the walk's nodes. -/
theorem walk_ind {p : Nat → Nat → Prop} (h : ∀ a b, a < b → (2 ≤ b - a → p a (a + hlf (b - a)) ∧ p (a + hlf (b - a)) b) → p a b) : ∀ a b, a < b → p a b := by
  have key : ∀ n a b, b - a = n → a < b → p a b := by
    intro n
    induction n using Nat.strongRecOn with
    | _ n ih =>
      intro a b hn hab
      refine h a b hab fun h2 => ?_
      have h3 := hlf_lt h2
      have h4 := hlf_pos (b - a)
      exact ⟨ih _ (by omega) _ _ rfl (by omega), ih _ (by omega) _ _ rfl (by omega)⟩
  exact fun a b => key _ a b rfl
/-- Outside an interval; not across a place. -/
def outI (f t a b : Nat) : Bool := decide (b ≤ f) || decide (t ≤ a)
def farB (n a b : Nat) : Bool := decide (b ≤ n) || decide (n ≤ a)
def restS (f t a b : Nat) : List (Nat × Nat) := stopsS (outI f t) a b
def stepsS (n a b : Nat) : List (Nat × Nat) := stopsS (farB n) a b

/-- What a walk computes that takes a digest at each stop, leaves elsewhere: the digest, and how many were taken. -/
def chkS (st : Nat → Nat → Bool) (lf : Nat → List UInt8) (l : List (List UInt8)) (a b c : Nat) : List UInt8 × Nat :=
  if st a b then (l.getD c zD, c + 1)
  else if _ : 2 ≤ b - a then
    let x := chkS st lf l a (a + hlf (b - a)) c
    let y := chkS st lf l (a + hlf (b - a)) b x.2
    (nodeS x.1 y.1, y.2)
  else (lf a, c)
termination_by b - a
decreasing_by
  · have := hlf_lt (n := b - a) ‹_›; omega
  · have := hlf_pos (b - a); omega
theorem chk_stop {st : Nat → Nat → Bool} {lf : Nat → List UInt8} {l : List (List UInt8)} {a b c : Nat} (h : st a b = true) : chkS st lf l a b c = (l.getD c zD, c + 1) := by rw [chkS, if_pos h]
theorem chk_one {st : Nat → Nat → Bool} {lf : Nat → List UInt8} {l : List (List UInt8)} {a b c : Nat} (h : st a b = false) (h1 : b - a ≤ 1) : chkS st lf l a b c = (lf a, c) := by
  rw [chkS, if_neg (by simp [h]), dif_neg (by omega)]
theorem chk_more {st : Nat → Nat → Bool} {lf : Nat → List UInt8} {l : List (List UInt8)} {a b c : Nat} (h : st a b = false) (h1 : 2 ≤ b - a) :
    chkS st lf l a b c = (nodeS (chkS st lf l a (a + hlf (b - a)) c).1 (chkS st lf l (a + hlf (b - a)) b (chkS st lf l a (a + hlf (b - a)) c).2).1, (chkS st lf l (a + hlf (b - a)) b (chkS st lf l a (a + hlf (b - a)) c).2).2) := by
  rw [chkS, if_neg (by simp [h]), dif_pos h1]
/-- It takes one digest for each stop. -/
theorem chk_count (st : Nat → Nat → Bool) (lf : Nat → List UInt8) (l : List (List UInt8)) : ∀ a b, a < b → ∀ c, (chkS st lf l a b c).2 = c + (stopsS st a b).length := by
  apply walk_ind
  intro a b hab ih c
  cases hs : st a b with
  | true => rw [chk_stop hs, stops_stop hs]; rfl
  | false =>
    by_cases h2 : 2 ≤ b - a
    · obtain ⟨i1, i2⟩ := ih h2
      rw [chk_more hs h2, stops_more hs h2, List.length_append, i2, i1]
      omega
    · rw [chk_one hs (by omega), stops_one hs (by omega)]; rfl
/-- The stops lie one behind the other. -/
theorem stops_in (st : Nat → Nat → Bool) : ∀ a b, a < b → ∀ p ∈ stopsS st a b, a ≤ p.1 ∧ p.1 < p.2 ∧ p.2 ≤ b ∧ st p.1 p.2 = true := by
  apply walk_ind
  intro a b hab ih p hp
  cases hs : st a b with
  | true =>
    rw [stops_stop hs] at hp
    obtain rfl := List.mem_singleton.1 hp
    exact ⟨Nat.le_refl _, hab, Nat.le_refl _, hs⟩
  | false =>
    by_cases h2 : 2 ≤ b - a
    · obtain ⟨i1, i2⟩ := ih h2
      have h3 := hlf_lt h2
      rw [stops_more hs h2] at hp
      rcases List.mem_append.1 hp with h | h
      · have := i1 p h; exact ⟨by omega, by omega, by omega, this.2.2.2⟩
      · have := i2 p h; exact ⟨by omega, by omega, by omega, this.2.2.2⟩
    · rw [stops_one hs (by omega)] at hp; cases hp
/-- Where a stop is in a list. -/
def findS (R : List (Nat × Nat)) (p : Nat × Nat) : Option Nat := R.findIdx? (fun q => decide (q = p))
theorem find_none {R : List (Nat × Nat)} {p : Nat × Nat} (h : p ∉ R) : findS R p = none := by
  unfold findS
  rw [List.findIdx?_eq_none_iff]
  intro q hq
  simp
  rintro rfl
  exact h hq
theorem find_at {P Q : List (Nat × Nat)} {p : Nat × Nat} (h : p ∉ P) : findS (P ++ p :: Q) p = some P.length := by
  unfold findS
  rw [List.findIdx?_append]
  have : P.findIdx? (fun q => decide (q = p)) = none := find_none h
  rw [this]
  simp [List.findIdx?_cons]
/-- A stop is found at its place; what is no stop is not found. -/
structure At (st : Nat → Nat → Bool) (R P Q : List (Nat × Nat)) (a b : Nat) : Prop where
  eq : R = P ++ stopsS st a b ++ Q
  lo : ∀ p ∈ P, p.1 < a
  hi : ∀ p ∈ Q, b ≤ p.1
  ok : ∀ p ∈ P ++ Q, st p.1 p.2 = true
theorem At.all {st : Nat → Nat → Bool} {a b : Nat} : At st (stopsS st a b) [] [] a b := ⟨by simp, by simp, by simp, by simp⟩
theorem At.stop {st : Nat → Nat → Bool} {R P Q : List (Nat × Nat)} {a b : Nat} (h : At st R P Q a b) (hs : st a b = true) : findS R (a, b) = some P.length := by
  rw [h.eq, stops_stop hs, List.append_assoc]
  exact find_at fun hm => by have := h.lo _ hm; simp at this
theorem At.go {st : Nat → Nat → Bool} {R P Q : List (Nat × Nat)} {a b : Nat} (hab : a < b) (h : At st R P Q a b) (hs : st a b = false) : findS R (a, b) = none := by
  rw [h.eq]
  apply find_none
  intro hm
  rcases List.mem_append.1 hm with hm | hm
  · rcases List.mem_append.1 hm with hm | hm
    · have := h.ok (a, b) (List.mem_append.2 (.inl hm)); simp [hs] at this
    · have := (stops_in st a b hab _ hm).2.2.2; simp [hs] at this
  · have := h.ok (a, b) (List.mem_append.2 (.inr hm)); simp [hs] at this
theorem At.left {st : Nat → Nat → Bool} {R P Q : List (Nat × Nat)} {a b : Nat} (h : At st R P Q a b) (hs : st a b = false) (h2 : 2 ≤ b - a) : At st R P (stopsS st (a + hlf (b - a)) b ++ Q) a (a + hlf (b - a)) := by
  have h3 := hlf_lt h2
  have h4 := hlf_pos (b - a)
  refine ⟨by rw [h.eq, stops_more hs h2]; simp only [List.append_assoc], h.lo, fun p hp => ?_, fun p hp => ?_⟩
  · rcases List.mem_append.1 hp with hm | hm
    · exact (stops_in st _ _ (by omega) p hm).1
    · have := h.hi p hm; omega
  · rcases List.mem_append.1 hp with hm | hm
    · exact h.ok p (List.mem_append.2 (.inl hm))
    · rcases List.mem_append.1 hm with hm | hm
      · exact (stops_in st _ _ (by omega) p hm).2.2.2
      · exact h.ok p (List.mem_append.2 (.inr hm))
theorem At.right {st : Nat → Nat → Bool} {R P Q : List (Nat × Nat)} {a b : Nat} (h : At st R P Q a b) (hs : st a b = false) (h2 : 2 ≤ b - a) : At st R (P ++ stopsS st a (a + hlf (b - a))) Q (a + hlf (b - a)) b := by
  have h3 := hlf_lt h2
  have h4 := hlf_pos (b - a)
  refine ⟨by rw [h.eq, stops_more hs h2]; simp only [List.append_assoc], fun p hp => ?_, h.hi, fun p hp => ?_⟩
  · rcases List.mem_append.1 hp with hm | hm
    · have := h.lo p hm; omega
    · have := stops_in st _ _ (by omega) p hm; omega
  · rcases List.mem_append.1 hp with hm | hm
    · rcases List.mem_append.1 hm with hm | hm
      · exact h.ok p (List.mem_append.2 (.inl hm))
      · exact (stops_in st _ _ (by omega) p hm).2.2.2
    · exact h.ok p (List.mem_append.2 (.inr hm))
theorem At.len {st : Nat → Nat → Bool} {R P Q : List (Nat × Nat)} {a b : Nat} (h : At st R P Q a b) (hs : st a b = true) : P.length < R.length := by
  rw [h.eq, stops_stop hs]; simp
/-- The root of the leaves before the place n, as it is computed out of the steps. -/
def oldC (st : Nat → Nat → Bool) (l : List (List UInt8)) (n a b c : Nat) : List UInt8 :=
  if st a b then l.getD c zD
  else if _ : 2 ≤ b - a then
    if n ≤ a + hlf (b - a) then oldC st l n a (a + hlf (b - a)) c
    else nodeS (chkS st (fun _ => zD) l a (a + hlf (b - a)) c).1 (oldC st l n (a + hlf (b - a)) b (chkS st (fun _ => zD) l a (a + hlf (b - a)) c).2)
  else zD
termination_by b - a
decreasing_by
  · have := hlf_lt (n := b - a) ‹_›; omega
  · have := hlf_pos (b - a); omega
theorem old_stop {st : Nat → Nat → Bool} {l : List (List UInt8)} {n a b c : Nat} (h : st a b = true) : oldC st l n a b c = l.getD c zD := by rw [oldC, if_pos h]
theorem old_left {st : Nat → Nat → Bool} {l : List (List UInt8)} {n a b c : Nat} (h : st a b = false) (h2 : 2 ≤ b - a) (hn : n ≤ a + hlf (b - a)) : oldC st l n a b c = oldC st l n a (a + hlf (b - a)) c := by
  rw [oldC, if_neg (by simp [h]), dif_pos h2, if_pos hn]
theorem old_both {st : Nat → Nat → Bool} {l : List (List UInt8)} {n a b c : Nat} (h : st a b = false) (h2 : 2 ≤ b - a) (hn : ¬ n ≤ a + hlf (b - a)) : oldC st l n a b c = nodeS (chkS st (fun _ => zD) l a (a + hlf (b - a)) c).1 (oldC st l n (a + hlf (b - a)) b (chkS st (fun _ => zD) l a (a + hlf (b - a)) c).2) := by
  rw [oldC, if_neg (by simp [h]), dif_pos h2, if_neg hn]
theorem chk_len (st : Nat → Nat → Bool) (lf : Nat → List UInt8) (hlf : ∀ a, (lf a).length = 16) (l : List (List UInt8)) (hl : ∀ d ∈ l, d.length = 16) : ∀ a b, a < b → ∀ c, (chkS st lf l a b c).1.length = 16 := by
  apply walk_ind
  intro a b hab ih c
  cases hs : st a b with
  | true =>
    rw [chk_stop hs]
    by_cases hc : c < l.length
    · have : l.getD c zD = l[c] := by simp [hc]
      simp only [this]; exact hl _ (List.getElem_mem hc)
    · simp only [List.getD_eq_getElem?_getD, List.getElem?_eq_none (Nat.le_of_not_lt hc)]; rfl
  | false =>
    by_cases h2 : 2 ≤ b - a
    · rw [chk_more hs h2]; simp
    · rw [chk_one hs (by omega)]; exact hlf a
theorem getD16 {l : List (List UInt8)} (hl : ∀ d ∈ l, d.length = 16) (c : Nat) : (l.getD c zD).length = 16 := by
  by_cases hc : c < l.length
  · have : l.getD c zD = l[c] := by simp [hc]
    rw [this]; exact hl _ (List.getElem_mem hc)
  · simp only [List.getD_eq_getElem?_getD, List.getElem?_eq_none (Nat.le_of_not_lt hc)]; rfl
theorem old_len (l : List (List UInt8)) (n : Nat) (hl : ∀ d ∈ l, d.length = 16) (st : Nat → Nat → Bool) : ∀ a b, a < b → ∀ c, (oldC st l n a b c).length = 16 := by
  apply walk_ind
  intro a b hab ih c
  cases hs : st a b with
  | true => rw [old_stop hs]; exact getD16 hl c
  | false =>
    by_cases h2 : 2 ≤ b - a
    · by_cases hn : n ≤ a + hlf (b - a)
      · rw [old_left hs h2 hn]; exact (ih h2).1 c
      · rw [old_both hs h2 hn]; simp
    · rw [oldC, if_neg (by simp [hs]), dif_neg h2]; rfl
/-- What is taken at the stops does not depend on leaves, where each single place stops. -/
theorem chk_lf {st : Nat → Nat → Bool} (lf lf' : Nat → List UInt8) (l : List (List UInt8)) (h1 : ∀ a, st a (a + 1) = false → lf a = lf' a) : ∀ a b, a < b → ∀ c, chkS st lf l a b c = chkS st lf' l a b c := by
  apply walk_ind
  intro a b hab ih c
  cases hs : st a b with
  | true => rw [chk_stop hs, chk_stop hs]
  | false =>
    by_cases h2 : 2 ≤ b - a
    · rw [chk_more hs h2, chk_more hs h2, (ih h2).1, (ih h2).2]
    · rw [chk_one hs (by omega), chk_one hs (by omega), h1 a (by rw [show a + 1 = b by omega]; exact hs)]
end Go.Proofs.YtidfbboalbchiaaDoor

namespace Go.Proofs.YtidfbboalbchiaaDoor
open Go Go.RowKit

/-- The number that some bytes are. -/
def val (l : List UInt8) : Nat := l.foldl (fun acc x => acc * 256 + x.toNat) 0
theorem val_append (l : List UInt8) (x : UInt8) : val (l ++ [x]) = val l * 256 + x.toNat := by simp [val]
theorem val_digits : ∀ (k m : Nat), val ((List.range k).map fun i => UInt8.ofNat (m / 256 ^ (k - 1 - i) % 256)) = m % 256 ^ k := by
  intro k
  induction k with
  | zero => intro m; simp [val, Nat.mod_one]
  | succ k ih =>
    intro m
    rw [List.range_succ, List.map_append, List.map_cons, List.map_nil, val_append]
    have e : ((List.range k).map fun i => UInt8.ofNat (m / 256 ^ (k + 1 - 1 - i) % 256)) = (List.range k).map fun i => UInt8.ofNat (m / 256 / 256 ^ (k - 1 - i) % 256) := by
      apply List.map_congr_left
      intro i hi
      have hi' : i < k := List.mem_range.1 hi
      rw [Nat.div_div_eq_div_mul, ← Nat.pow_succ', show (k - 1 - i).succ = k + 1 - 1 - i by omega]
    rw [e, ih, show k + 1 - 1 - k = 0 by omega, Nat.pow_zero, Nat.div_one]
    have e2 : (UInt8.ofNat (m % 256)).toNat = m % 256 := by
      have : (UInt8.ofNat (m % 256)).toNat = m % 256 % 2 ^ 8 := rfl
      omega
    rw [e2, Nat.pow_succ', Nat.mod_mul, Nat.mul_comm, Nat.add_comm]
theorem val_digs (m : Nat) (h : m < 18446744073709551616) : val (digs m 0) = m := by
  have := val_digits (nb m) m
  rw [Nat.mod_eq_of_lt (nb_lt m h)] at this
  unfold digs
  simpa using this
theorem encI_nat (n : Nat) : encI (n : Int) = UInt8.ofNat (128 + nb n) :: digs n 0 := by
  have h1 : mag (n : Int) = n := by unfold mag; rw [if_neg (by omega)]; omega
  have h2 : flip (n : Int) = 0 := by unfold flip; rw [if_neg (by omega)]
  rw [encI, h1, h2, UInt8.xor_zero]
theorem encI_pre {n m : Nat} {r r' : List UInt8} (hn : n < 18446744073709551616) (hm : m < 18446744073709551616) (h : encI (n : Int) ++ r = encI (m : Int) ++ r') : n = m ∧ r = r' := by
  rw [encI_nat, encI_nat, List.cons_append, List.cons_append] at h
  obtain ⟨h1, h2⟩ := List.cons.inj h
  have hk : nb n = nb m := by
    have h3 := congrArg UInt8.toNat h1
    have e1 : (UInt8.ofNat (128 + nb n)).toNat = (128 + nb n) % 2 ^ 8 := rfl
    have e2 : (UInt8.ofNat (128 + nb m)).toNat = (128 + nb m) % 2 ^ 8 := rfl
    have := nb_le n
    have := nb_le m
    omega
  obtain ⟨h4, h5⟩ := List.append_inj h2 (by rw [length_digs, length_digs, hk])
  have := congrArg val h4
  rw [val_digs n hn, val_digs m hm] at this
  exact ⟨this, h5⟩
theorem encB_pre {s t r r' : List UInt8} (hs : s.length < 18446744073709551616) (ht : t.length < 18446744073709551616) (h : encB s ++ r = encB t ++ r') : s = t ∧ r = r' := by
  unfold encB at h
  rw [List.append_assoc, List.append_assoc] at h
  obtain ⟨h1, h2⟩ := encI_pre hs ht h
  exact List.append_inj h2 h1
theorem parts_pre : ∀ (ps qs : List (List UInt8)), (∀ x ∈ ps, x.length < 18446744073709551616) → (∀ x ∈ qs, x.length < 18446744073709551616) → (ps.map encB).flatten = (qs.map encB).flatten → ps = qs := by
  intro ps
  induction ps with
  | nil =>
    intro qs _ _ h
    cases qs with
    | nil => rfl
    | cons y r =>
      have := congrArg List.length h
      simp [encB, length_encI] at this
      omega
  | cons x r ih =>
    intro qs hp hq h
    cases qs with
    | nil =>
      have := congrArg List.length h
      simp [encB, length_encI] at this
    | cons y s =>
      simp only [List.map_cons, List.flatten_cons] at h
      obtain ⟨rfl, h2⟩ := encB_pre (hp x (List.mem_cons_self ..)) (hq y (List.mem_cons_self ..)) h
      rw [ih s (fun z hz => hp z (List.mem_cons_of_mem _ hz)) (fun z hz => hq z (List.mem_cons_of_mem _ hz)) h2]
/-- A tag that is a byte. -/
theorem byteOf_u8 (x : UInt8) : byteOf (x.toNat : Int) = x := by rw [byteOf_nat]; simp
theorem ofIn_inj {x y : UInt8} {ps qs : List (List UInt8)} (hp : ∀ x ∈ ps, x.length ≤ 400) (hq : ∀ x ∈ qs, x.length ≤ 400) (h : ofIn (x.toNat : Int) ps = ofIn (y.toNat : Int) qs) : x = y ∧ ps = qs := by
  unfold ofIn at h
  rw [byteOf_u8, byteOf_u8] at h
  obtain ⟨h1, h2⟩ := List.cons.inj h
  exact ⟨h1, parts_pre ps qs (fun z hz => by have := hp z hz; omega) (fun z hz => by have := hq z hz; omega) h2⟩
theorem take_eq_s {α : Type} (s t : List α) (j : Nat) (x y : α) (hx : s[j]? = some x) (hy : t[j]? = some y) : s.take (j + 1) = t.take (j + 1) ↔ s.take j = t.take j ∧ x = y := by
  obtain ⟨h1, e1⟩ := List.getElem?_eq_some_iff.1 hx
  obtain ⟨h2, e2⟩ := List.getElem?_eq_some_iff.1 hy
  rw [List.take_add_one, List.take_add_one, hx, hy]
  constructor
  · intro h
    obtain ⟨h3, h4⟩ := List.append_inj h (by simp; omega)
    exact ⟨h3, by simpa using h4⟩
  · rintro ⟨h3, rfl⟩; rw [h3]
theorem u8_eq (x y : UInt8) : decide ((x.toNat : Int) = (y.toNat : Int)) = decide (x = y) := by
  by_cases h : x = y
  · simp [h]
  · have : ¬ (x.toNat : Int) = (y.toNat : Int) := fun e => h (UInt8.toNat.inj (by omega))
    simp [h, this]
/-- Equality of two bools that are known to be the same. -/
theorem beq_of {p q : Bool} (h : p = q) : (p == q) = true := by rw [h]; simp
end Go.Proofs.YtidfbboalbchiaaDoor
