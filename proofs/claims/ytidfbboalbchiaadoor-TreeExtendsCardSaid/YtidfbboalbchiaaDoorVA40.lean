/- The walk of the law that what is proved is accepted. -/
import Derived.Test.YtidfbboalbchiaaDoorVA38
namespace Go.Proofs.YtidfbboalbchiaaDoor
open Go Go.RowKit

theorem long_err {xs : List (List UInt8)} {k : Nat} (h : k ≤ xs.length) : (longR xs k).2 = 0 := by
  unfold longR; rw [if_neg (by omega)]; split <;> rfl
theorem long_short {xs : List (List UInt8)} {k d : Nat} (h : k ≤ xs.length) (hd : xs.length ≤ 2 ^ d) : (longR xs k).1.length ≤ d + 1 := by
  by_cases h0 : xs.length = 0
  · have e : longR xs k = ([ofD 2 []], 0) := by unfold longR; rw [if_neg (by omega), if_pos h0]
    rw [e]; simp
  · have e : longR xs k = (rootsOf xs (stepsS k 0 xs.length), 0) := by unfold longR; rw [if_neg (by omega), if_neg h0]; rfl
    rw [e, rootsOf_len]
    exact steps_short k 0 xs.length (by omega) d (by omega)
theorem prov_good {xs : List (List UInt8)} {f t : Nat} (hft : f < t) (ht : t ≤ xs.length) : provR xs f t = ⟨xs.length, f, rootsOf xs (restS f t 0 xs.length), 0⟩ := by
  unfold provR; rw [if_neg (by omega)]; rfl
theorem prov_short {xs : List (List UInt8)} {f t d : Nat} (hft : f < t) (ht : t ≤ xs.length) (hd : xs.length ≤ 2 ^ d) : (provR xs f t).nodes.length ≤ 2 * d := by
  rw [prov_good hft ht]
  show (rootsOf xs (restS f t 0 xs.length)).length ≤ _
  rw [rootsOf_len]
  exact rest_short f t hft 0 xs.length (by omega) d (by omega) (by omega) (by omega) (by omega) ht

theorem sub_blk {w : World} {ad : Option Addr} {n c k : Nat} {xs : List Value} (h : Rd w ad n c 1 xs) (hk : k < n) : ∀ b o, (if c = k then ad else ad.map (·.add (k * 1))) = some ⟨b, o, none⟩ → b < w.heap.size := fun b o e => by
  have hl := h.1
  have hn := h.2.1
  obtain ⟨b', o', rfl, hc⟩ := h.2.2 0 (xs[0]'(by omega)) (by simp)
  rw [if_neg (by omega)] at e
  have : b = b' := by simp [Addr.add_lit] at e; exact e.1.symm
  rw [this]
  exact World.block_lt_of_cell? w _ hc

set_option maxRecDepth 4000 in
set_option maxHeartbeats 1000000 in
theorem c15 (l : List Int) (hl64 : ∀ n ∈ l, is64 n) (n1 n2 n3 : Int) (hi1 : is64 n1) (hi2 : is64 n2) (hi3 : is64 n3) (ad : Option Addr) (c : Nat) (w0 : World) (hR : Ri w0 ad l.length c l) (hG : GH w0) :
    Calls Tryd.prog 15 #[.slice ad l.length c, I n1, I n2, I n3] w0 fun e w' => e = .returned (.bool true) ∧ Ext w0 w' := by
  refine start 111 Tryd.func15 rfl rfl rfl fun a hk => ?_
  have hB : Ext w0 w0 := Below.refl _ _
  refine wp_seq_k fun K1 hK1 => ?_
  refine wp_region_lit ?_
  refine ls hk rfl rfl rfl (e_assign hk rfl _) fun a hk => ?_
  refine lnil (hK1 _ _ ?_)
  refine wp_seq_k fun K2 hK2 => ?_
  refine wp_region_lit ?_
  refine ls hk rfl rfl rfl (e_move hk rfl _) fun a hk => ?_
  refine la hk rfl (a_call hk rfl rfl (c_fn hk rfl ok44) (c44 l hl64 ad c _ (Rd.ext hR hB)) ?_)
  rintro e w ⟨⟨ad2, c2, xs, rfl, hRx, h20, hL, hlt⟩, hE⟩
  refine ⟨_, rfl, fun a hk => ?_⟩
  have hB := ext_trans hB hE
  have hL1 := hL.1
  clear hE
  refine ls hk rfl rfl rfl (e_assign hk rfl _) fun a hk => ?_
  refine lnil (hK2 _ _ ?_)
  refine wp_seq_k fun K3 hK3 => ?_
  refine wp_region_lit ?_
  refine ls hk rfl rfl rfl (e_move hk rfl _) fun a hk => ?_
  refine la hk rfl (a_call hk rfl rfl (c_fn hk rfl ok46) (c46 xs hL ad2 c2 _ hRx (hG.ext hB)) ?_)
  rintro e w ⟨rfl, hE⟩
  refine ⟨_, rfl, fun a hk => ?_⟩
  have hRx := hRx.ext hE
  have hlt := blk_ext hlt hE
  have hB := ext_trans hB hE
  clear hE
  refine la hk rfl (a_alloc hk rfl zr44 fun a w b10 hk G => ?_)
  have k_hRx_b10 := rd_keep hRx G
  have hg_b10 : w0.heap.size ≤ b10 := Nat.le_trans hB.size G.ge
  have hRx := hRx.ext G.ext
  have hlt := blk_ext hlt G.ext
  have hB := ext_trans hB G.ext
  have h_b10 := G.at_
  clear G
  refine la hk rfl (a_st44 (l := rootS xs) hk rfl rfl (by simp) h_b10 rfl fun a w hk W => ?_)
  have hRx := k_hRx_b10 _ _ _ hRx W
  have hlt := blk_wrote hlt W
  have hB := W.below hB hg_b10
  have h_b10 := W.at_
  clear W
  refine lnil (hK3 _ _ ?_)
  refine wp_seq_k fun K4 hK4 => ?_
  refine wp_region_lit ?_
  refine ls hk rfl rfl rfl (e_assign hk rfl _) fun a hk => ?_
  refine lnil (hK4 _ _ ?_)
  refine wp_seq_k fun K5 hK5 => ?_
  refine wp_block ?_
  refine loopN (fun n a w => ∃ d : Nat, n = 5 - d ∧ d ≤ 5 ∧ Kn a 111 [(1, I n1), (2, I n2), (3, I n3), (9, .slice ad2 xs.length c2), (10, .pointer (some ⟨b10, 0, none⟩)), (11, I d)] ∧ (Ext w0 w) ∧ (Rs w ad2 xs.length c2 xs) ∧ (∀ b o, ad2 = some ⟨b, o, none⟩ → b < w.heap.size) ∧ (w.heap[b10]? = some (.cells ((rootS xs).map B).toArray 44 (0, 0)))) (5 - 0) ?_ fun n a w hI => ?_
  · exact ⟨0, rfl, by omega, hk.sub _ ⟨rfl, rfl, rfl, rfl, rfl, rfl, trivial⟩, hB, hRx, hlt, h_b10⟩
  clear hk hB hRx hlt h_b10
  obtain ⟨d, rfl, hi_le, hk, hB, hRx, hlt, h_b10⟩ := hI
  have hpd : 2 ^ d ≤ 2 ^ 5 := Nat.pow_le_pow_right (by decide) hi_le
  have hpd2 : (2 : Nat) ^ 5 = 32 := rfl
  refine wp_seq_k fun K6 hK6 => ?_
  refine wp_seq_k fun K7 hK7 => ?_
  refine wp_region_lit ?_
  refine ls hk rfl rfl rfl (e_move hk rfl _) fun a hk => ?_
  refine ls hk rfl rfl rfl (e_conv hk rfl Tryd.underlying3 Tryd.underlying89 (u64 (by omega) (by omega)) _) fun a hk => ?_
  refine ls hk rfl rfl rfl (e_shl (q := ((2 ^ d : Nat) : Int)) hk rfl rfl (by omega) (by rw [Int.toNat_natCast, Nat.min_eq_left (by show _ ≤ 64; omega), show (1 : Int) * 2 ^ d = ((2 ^ d : Nat) : Int) by push_cast; omega]; exact i64 (Int.le_trans (by decide) (Int.natCast_nonneg (2 ^ d))) (by omega)) _) fun a hk => ?_
  refine ls hk rfl rfl rfl (e_move hk rfl _) fun a hk => ?_
  refine ls hk rfl rfl rfl (e_lenS hk rfl Tryd.underlying27 _) fun a hk => ?_
  refine ls hk rfl rfl rfl (e_lss hk rfl rfl rfl _) fun a hk => ?_
  refine lnil (hK7 _ _ ?_)
  refine cdB hk rfl (fun hb => ?_) (fun hb => ?_)
  · have hlt5 : 2 ^ d < xs.length := by have := of_decide_eq_true hb; omega
    have hd5 : d < 5 := by
      rcases Nat.lt_or_ge d 5 with h | h
      · exact h
      · have := Nat.pow_le_pow_right (n := 2) (by decide) h; omega
    refine wp_skip (hK6 _ _ ?_)
    refine wp_block ?_
    refine wp_region_lit ?_
    refine ls hk rfl rfl rfl (e_move hk rfl _) fun a hk => ?_
    refine ls hk rfl rfl rfl (e_add hk rfl rfl (i64 (by omega) (by omega)) _) fun a hk => ?_
    refine ls hk rfl rfl rfl (e_assign hk rfl _) fun a hk => ?_
    refine lnil (show ∃ m : Nat, m < _ ∧ _ from ⟨5 - (d + 1), by omega, d + 1, rfl, by omega, hk.sub _ ⟨rfl, rfl, rfl, rfl, rfl, rfl, trivial⟩, hB, hRx, hlt, h_b10⟩)
  · have hdl : xs.length ≤ 2 ^ d := by have := of_decide_eq_false hb; omega
    refine wp_exit (hK5 _ _ ?_)
    refine wp_seq_k fun K8 hK8 => ?_
    refine wp_region_lit ?_
    refine ls hk rfl rfl rfl (e_move hk rfl _) fun a hk => ?_
    refine ls hk rfl rfl rfl (e_move hk rfl _) fun a hk => ?_
    refine ls hk rfl rfl rfl (e_lenS hk rfl Tryd.underlying27 _) fun a hk => ?_
    refine ls hk rfl rfl rfl (e_add hk rfl rfl (i64 (by omega) (by omega)) _) fun a hk => ?_
    refine la hk rfl (a_call hk rfl rfl (c_fn hk rfl ok45) (c45 n3 ((xs.length : Int) + 1) _ hi3) ?_)
    rintro e w ⟨rfl, hE⟩
    refine ⟨_, rfl, fun a hk => ?_⟩
    have hRx := hRx.ext hE
    have hlt := blk_ext hlt hE
    have h_b10 := ext_at hE h_b10
    have hB := ext_trans hB hE
    obtain ⟨k, hqk, hzk⟩ : ∃ k : Nat, aroundS n3 ((xs.length : Int) + 1) = k ∧ (k : Int) < ((xs.length : Int) + 1) := ⟨(aroundS n3 ((xs.length : Int) + 1)).toNat, by rw [Int.toNat_of_nonneg (around_pos _ _)], by have := around_lt (n := n3) (most := ((xs.length : Int) + 1)) (by omega); have := around_pos n3 ((xs.length : Int) + 1); omega⟩
    rw [hqk] at hk
    clear hE
    refine ls hk rfl rfl rfl (e_assign hk rfl _) fun a hk => ?_
    refine lnil (hK8 _ _ ?_)
    refine wp_seq_k fun K9 hK9 => ?_
    refine wp_region_lit ?_
    refine ls hk rfl rfl rfl (e_move hk rfl _) fun a hk => ?_
    refine ls hk rfl rfl rfl (e_move hk rfl _) fun a hk => ?_
    refine la hk rfl (a_call hk rfl rfl (c_fn hk rfl ok50) (c50 xs hL ad2 c2 k _ hRx (hG.ext hB)) ?_)
    rintro e w ⟨⟨adL, cL, he, hRa, hla⟩, hE⟩
    have hok := long_ok xs hL1 k (by omega)
    have hsh := long_short (k := k) (by omega) hdl
    rw [long_err (by omega)] at he
    generalize (longR xs k).1 = Ls at he hRa hok hsh
    subst he
    refine ⟨_, rfl, fun a hk => ?_⟩
    have hRx := hRx.ext hE
    have hlt := blk_ext hlt hE
    have h_b10 := ext_at hE h_b10
    have hB := ext_trans hB hE
    clear hE
    refine ls hk rfl rfl rfl (e_move hk rfl _) fun a hk => ?_
    refine ls hk rfl rfl rfl (e_ext hk rfl rfl _) fun a hk => ?_
    refine ls hk rfl rfl rfl (e_ext hk rfl rfl _) fun a hk => ?_
    refine ls hk rfl rfl rfl (e_assign hk rfl _) fun a hk => ?_
    refine ls hk rfl rfl rfl (e_assign hk rfl _) fun a hk => ?_
    refine lnil (hK9 _ _ ?_)
    refine wp_seq_k fun K10 hK10 => ?_
    refine wp_seq_k fun K11 hK11 => ?_
    have hlk : (xs.take k).length = k := by simp; omega
    refine wp_region_ok (fun w => w.heap[b10]? = some (.cells ((rootS xs).map B).toArray 44 (0, 0))) [0, 0, 0, 0, 0, 0, 0, 0, 0, 0, 0, 0, 0, 4, 3, 0, 0, 0, 0, 2, 0, 0] mixed ?_
    have hB := hB.drew
    have hRx := hRx.ext (ext_drew w)
    have hlt := blk_ext hlt (ext_drew w)
    have h_b10 := ext_at (ext_drew w) h_b10
    have hRa := hRa.ext (ext_drew w)
    have hla := blk_ext hla (ext_drew w)
    have hS : (fun w => w.heap[b10]? = some (.cells ((rootS xs).map B).toArray 44 (0, 0))) w.drew := h_b10
    refine d0 0 hk rfl (chkN_ok (by as_aux_lemma => kernel_rfl)) rfl rfl rfl rfl (fun _ => e_move hk rfl _) fun a hk => ?_
    refine d0 1 hk rfl (chkN_ok (by as_aux_lemma => kernel_rfl)) rfl rfl rfl rfl (fun _ => e_neq (b := false) hk rfl rfl (by simp) _) fun a hk => ?_
    refine d0 2 hk rfl (chkN_ok (by as_aux_lemma => kernel_rfl)) rfl rfl rfl rfl (fun _ => e_move hk rfl _) fun a hk => ?_
    refine d0 3 hk rfl (chkN_ok (by as_aux_lemma => kernel_rfl)) rfl rfl rfl rfl (fun _ => e_move hk rfl _) fun a hk => ?_
    refine d0 4 hk rfl (chkN_ok (by as_aux_lemma => kernel_rfl)) rfl rfl rfl rfl (fun _ => e_lenS hk rfl Tryd.underlying69 _) fun a hk => ?_
    refine d0 5 hk rfl (chkN_ok (by as_aux_lemma => kernel_rfl)) rfl rfl rfl rfl (fun _ => e_move hk rfl _) fun a hk => ?_
    refine d0 6 hk rfl (chkN_ok (by as_aux_lemma => kernel_rfl)) rfl rfl rfl rfl (fun _ => e_add (q := ((d + 1 : Nat) : Int)) hk rfl rfl (by rw [i64 (by omega) (by omega)]; omega) _) fun a hk => ?_
    refine d0 7 hk rfl (chkN_ok (by as_aux_lemma => kernel_rfl)) rfl rfl rfl rfl (fun _ => e_gtr (b := false) hk rfl rfl (decide_eq_false (by omega)) _) fun a hk => ?_
    refine d0 8 hk rfl (chkN_ok (by as_aux_lemma => kernel_rfl)) rfl rfl rfl rfl (fun _ => e_pickF hk rfl rfl _) fun a hk => ?_
    refine d0 9 hk rfl (chkN_ok (by as_aux_lemma => kernel_rfl)) rfl rfl rfl rfl (fun _ => e_move hk rfl _) fun a hk => ?_
    refine d0 10 hk rfl (chkN_ok (by as_aux_lemma => kernel_rfl)) rfl rfl rfl rfl (fun _ => e_move hk rfl _) fun a hk => ?_
    refine d0 11 hk rfl (chkN_ok (by as_aux_lemma => kernel_rfl)) rfl rfl rfl rfl (fun _ => e_move hk rfl _) fun a hk => ?_
    refine d0 12 hk rfl (chkN_ok (by as_aux_lemma => kernel_rfl)) rfl rfl rfl rfl (fun _ => e_slSto hk rfl rfl Tryd.underlying27 sz9 (by omega) (by have := hRx.2.1; omega) _) fun a hk => ?_
    have hRk := sub_to hRx (k := k) (by omega)
    rw [← List.map_take] at hRk
    rw [Int.toNat_natCast] at hk
    generalize (if c2 = 0 then ad2 else ad2.map (·.add 0)) = adk at hk hRk
    have hk := hk.lift 54 (v := .slice adk (xs.take (k)).length c2) (by rw [hlk]; rfl)
    have hRk : Rs w adk (xs.take (k)).length c2 (xs.take (k)) := by rw [hlk]; exact hRk
    refine da4 13 hk rfl (chkN_ok (by as_aux_lemma => kernel_rfl)) rfl rfl hS (a_call hk rfl rfl (c_fn hk rfl ok46) (c46 (xs.take k) ⟨by omega, fun x hx => hL.2 x (List.mem_of_mem_take hx)⟩ adk c2 _ hRk (hG.ext hB)) ?_)
    rintro e w ⟨rfl, hE⟩
    refine ⟨_, rfl, fun a hk => ⟨ext_at hE hS, ?_⟩⟩
    have hS := ext_at hE hS
    have hRx := hRx.ext hE
    have hlt := blk_ext hlt hE
    have h_b10 := ext_at hE h_b10
    have hRa := hRa.ext hE
    have hla := blk_ext hla hE
    have hB := ext_trans hB hE
    clear hE
    refine d3 14 hk rfl (chkN_ok (by as_aux_lemma => kernel_rfl)) rfl rfl rfl rfl hS (fun w hS => r_ld44 hk rfl hS (by simp)) fun a hk => ?_
    refine d0 15 hk rfl (chkN_ok (by as_aux_lemma => kernel_rfl)) rfl rfl rfl rfl (fun _ => e_move hk rfl _) fun a hk => ?_
    refine d0 16 hk rfl (chkN_ok (by as_aux_lemma => kernel_rfl)) rfl rfl rfl rfl (fun _ => e_move hk rfl _) fun a hk => ?_
    refine d0 17 hk rfl (chkN_ok (by as_aux_lemma => kernel_rfl)) rfl rfl rfl rfl (fun _ => e_lenS hk rfl Tryd.underlying27 _) fun a hk => ?_
    refine d0 18 hk rfl (chkN_ok (by as_aux_lemma => kernel_rfl)) rfl rfl rfl rfl (fun _ => e_move hk rfl _) fun a hk => ?_
    refine da 19 hk rfl (chkN_ok (by as_aux_lemma => kernel_rfl)) rfl rfl (a_call hk rfl rfl (c_fn hk rfl ok57) (c57 (rootS (xs.take k)) (rootS xs) (by simp) (by simp) k xs.length Ls adL cL _ hRa hla (by omega) (hG.ext hB) ⟨by omega, by omega⟩ ⟨by omega, by omega⟩) ?_)
    rintro e w ⟨rfl, hE⟩
    refine ⟨_, rfl, fun a hk => ?_⟩
    have hS := ext_at hE hS
    have hRx := hRx.ext hE
    have hlt := blk_ext hlt hE
    have h_b10 := ext_at hE h_b10
    have hRa := hRa.ext hE
    have hla := blk_ext hla hE
    have hB := ext_trans hB hE
    rw [hok] at hk
    clear hE
    refine d0 20 hk rfl (chkN_ok (by as_aux_lemma => kernel_rfl)) rfl rfl rfl rfl (fun _ => e_neq (b := false) hk rfl rfl (by simp) _) fun a hk => ?_
    refine d0 21 hk rfl (chkN_ok (by as_aux_lemma => kernel_rfl)) rfl rfl rfl rfl (fun _ => e_pickF hk rfl rfl _) fun a hk => ?_
    refine okFin (by as_aux_lemma => kernel_rfl) (hK11 _ _ ?_)
    refine cdF hk rfl ?_
    refine wp_skip (hK10 _ _ ?_)
    refine wp_seq_k fun K12 hK12 => ?_
    refine wp_seq_k fun K13 hK13 => ?_
    refine wp_region_lit ?_
    refine ls hk rfl rfl rfl (e_move hk rfl _) fun a hk => ?_
    refine ls hk rfl rfl rfl (e_lenS hk rfl Tryd.underlying27 _) fun a hk => ?_
    refine ls hk rfl rfl rfl (e_eql hk rfl rfl rfl _) fun a hk => ?_
    refine lnil (hK13 _ _ ?_)
    refine cdB hk rfl (fun hb => ?_) (fun hb => ?_)
    · have h0 : xs.length = 0 := by have := of_decide_eq_true hb; omega
      refine wp_seq_k fun K14 hK14 => ?_
      refine wp_region_lit ?_
      refine la hk rfl (a_call hk rfl rfl (c_fn (vs := []) hk rfl ok53) (c53 _ (hG.ext hB)) ?_)
      rintro e w ⟨rfl, hE⟩
      refine ⟨_, rfl, fun a hk => ?_⟩
      have hRx := hRx.ext hE
      have hlt := blk_ext hlt hE
      have h_b10 := ext_at hE h_b10
      have hRa := hRa.ext hE
      have hla := blk_ext hla hE
      have hB := ext_trans hB hE
      clear hE
      refine ls hk rfl rfl rfl (e_assign hk rfl _) fun a hk => ?_
      refine lnil (hK14 _ _ ?_)
      refine wp_ret ?_
      first
        | exact ret1 hk rfl rfl ⟨rfl, hB⟩
        | (simp only [then_ret]; exact ret1 hk rfl rfl ⟨rfl, hB⟩)
    · have h0 : 0 < xs.length := by have := of_decide_eq_false hb; omega
      refine wp_skip (hK12 _ _ ?_)
      refine wp_seq_k fun K15 hK15 => ?_
      refine wp_region_lit ?_
      refine ls hk rfl rfl rfl (e_move hk rfl _) fun a hk => ?_
      refine ls hk rfl rfl rfl (e_move hk rfl _) fun a hk => ?_
      refine ls hk rfl rfl rfl (e_lenS hk rfl Tryd.underlying27 _) fun a hk => ?_
      refine la hk rfl (a_call hk rfl rfl (c_fn hk rfl ok45) (c45 n1 xs.length _ hi1) ?_)
      rintro e w ⟨rfl, hE⟩
      refine ⟨_, rfl, fun a hk => ?_⟩
      have hRx := hRx.ext hE
      have hlt := blk_ext hlt hE
      have h_b10 := ext_at hE h_b10
      have hRa := hRa.ext hE
      have hla := blk_ext hla hE
      have hB := ext_trans hB hE
      obtain ⟨f, hqf, hzf⟩ : ∃ k : Nat, aroundS n1 (xs.length : Int) = k ∧ (k : Int) < (xs.length : Int) := ⟨(aroundS n1 (xs.length : Int)).toNat, by rw [Int.toNat_of_nonneg (around_pos _ _)], by have := around_lt (n := n1) (most := (xs.length : Int)) (by omega); have := around_pos n1 (xs.length : Int); omega⟩
      rw [hqf] at hk
      clear hE
      refine ls hk rfl rfl rfl (e_assign hk rfl _) fun a hk => ?_
      refine lnil (hK15 _ _ ?_)
      refine wp_seq_k fun K16 hK16 => ?_
      refine wp_region_lit ?_
      refine ls hk rfl rfl rfl (e_move hk rfl _) fun a hk => ?_
      refine ls hk rfl rfl rfl (e_add hk rfl rfl (i64 (by omega) (by omega)) _) fun a hk => ?_
      refine ls hk rfl rfl rfl (e_move hk rfl _) fun a hk => ?_
      refine ls hk rfl rfl rfl (e_move hk rfl _) fun a hk => ?_
      refine ls hk rfl rfl rfl (e_lenS hk rfl Tryd.underlying27 _) fun a hk => ?_
      refine ls hk rfl rfl rfl (e_move hk rfl _) fun a hk => ?_
      refine ls hk rfl rfl rfl (e_sub (q := ((xs.length - f : Nat) : Int)) hk rfl rfl (by rw [i64 (by omega) (by omega)]; omega) _) fun a hk => ?_
      refine la hk rfl (a_call hk rfl rfl (c_fn hk rfl ok45) (c45 n2 ((xs.length - f : Nat) : Int) _ hi2) ?_)
      rintro e w ⟨rfl, hE⟩
      refine ⟨_, rfl, fun a hk => ?_⟩
      have hRx := hRx.ext hE
      have hlt := blk_ext hlt hE
      have h_b10 := ext_at hE h_b10
      have hRa := hRa.ext hE
      have hla := blk_ext hla hE
      have hB := ext_trans hB hE
      obtain ⟨g, hqg, hzg⟩ : ∃ k : Nat, aroundS n2 ((xs.length - f : Nat) : Int) = k ∧ (k : Int) < ((xs.length - f : Nat) : Int) := ⟨(aroundS n2 ((xs.length - f : Nat) : Int)).toNat, by rw [Int.toNat_of_nonneg (around_pos _ _)], by have := around_lt (n := n2) (most := ((xs.length - f : Nat) : Int)) (by omega); have := around_pos n2 ((xs.length - f : Nat) : Int); omega⟩
      rw [hqg] at hk
      clear hE
      refine ls hk rfl rfl rfl (e_add (q := ((f + 1 + g : Nat) : Int)) hk rfl rfl (by rw [i64 (by omega) (by omega)]; omega) _) fun a hk => ?_
      refine ls hk rfl rfl rfl (e_assign hk rfl _) fun a hk => ?_
      refine lnil (hK16 _ _ ?_)
      refine wp_seq_k fun K17 hK17 => ?_
      refine wp_region_lit ?_
      refine ls hk rfl rfl rfl (e_move hk rfl _) fun a hk => ?_
      refine ls hk rfl rfl rfl (e_move hk rfl _) fun a hk => ?_
      refine ls hk rfl rfl rfl (e_move hk rfl _) fun a hk => ?_
      refine la hk rfl (a_call hk rfl rfl (c_fn hk rfl ok48) (c48 xs hL ad2 c2 f (f + 1 + g : Nat) _ hRx (hG.ext hB)) ?_)
      rintro e w ⟨⟨adp, cp, he, hRp, hlp⟩, hE⟩
      have hpok := prove_ok xs hL1 f (f + 1 + g) (by omega) (by omega)
      have hps := prov_short (f := f) (t := f + 1 + g) (by omega) (by omega) hdl
      rw [prov_good (by omega) (by omega)] at he hRp hpok hps
      simp only at he hRp hpok hps
      have hpe := hpok
      generalize rootsOf xs (restS f (f + 1 + g) 0 xs.length) = Pn at he hRp hpok hps
      clear hpe
      subst he
      refine ⟨_, rfl, fun a hk => ?_⟩
      have hRx := hRx.ext hE
      have hlt := blk_ext hlt hE
      have h_b10 := ext_at hE h_b10
      have hRa := hRa.ext hE
      have hla := blk_ext hla hE
      have hB := ext_trans hB hE
      clear hE
      refine ls hk rfl rfl rfl (e_move hk rfl _) fun a hk => ?_
      refine ls hk rfl rfl rfl (e_ext hk rfl rfl _) fun a hk => ?_
      refine ls hk rfl rfl rfl (e_ext hk rfl rfl _) fun a hk => ?_
      refine la hk rfl (a_alloc hk rfl zr71 fun a w b17 hk G => ?_)
      have k_hRx_b17 := rd_keep hRx G
      have n_b10_b17 : b10 ≠ b17 := G.ne h_b10
      have k_hRa_b17 := rdg_keep hRa G
      have k_hRp_b17 := rdg_keep hRp G
      have hg_b17 : w0.heap.size ≤ b17 := Nat.le_trans hB.size G.ge
      have hRx := hRx.ext G.ext
      have hlt := blk_ext hlt G.ext
      have h_b10 := ext_at G.ext h_b10
      have hRa := hRa.ext G.ext
      have hla := blk_ext hla G.ext
      have hRp := hRp.ext G.ext
      have hlp := blk_ext hlp G.ext
      have hB := ext_trans hB G.ext
      have h_b17 := G.at_
      clear G
      refine la hk rfl (a_storeB (cs' := #[I xs.length, I f, .slice adp Pn.length cp]) hk rfl rfl (by simp [Value.oneCell']) sz71 h_b17 rfl fun a w hk W => ?_)
      have hRx := k_hRx_b17 _ _ _ hRx W
      have hlt := blk_wrote hlt W
      have h_b10 := W.keep n_b10_b17 h_b10
      have hRa := k_hRa_b17 _ _ _ hRa W
      have hla := blk_wrote hla W
      have hRp := k_hRp_b17 _ _ _ hRp W
      have hlp := blk_wrote hlp W
      have hB := W.below hB hg_b17
      have h_b17 := W.at_
      clear W
      refine ls hk rfl rfl rfl (e_assign hk rfl _) fun a hk => ?_
      refine lnil (hK17 _ _ ?_)
      refine wp_seq_k fun K18 hK18 => ?_
      refine wp_region_ok (fun _ => True) [0, 0, 0, 0, 1, 0, 0, 0, 0, 0, 0, 1, 1, 0, 0, 0, 0, 2, 0, 0, 0, 2, 0, 0] mixed ?_
      have hB := hB.drew
      have hRx := hRx.ext (ext_drew w)
      have hlt := blk_ext hlt (ext_drew w)
      have h_b10 := ext_at (ext_drew w) h_b10
      have hRa := hRa.ext (ext_drew w)
      have hla := blk_ext hla (ext_drew w)
      have hRp := hRp.ext (ext_drew w)
      have hlp := blk_ext hlp (ext_drew w)
      have h_b17 := ext_at (ext_drew w) h_b17
      refine d0 0 hk rfl (chkN_ok (by as_aux_lemma => kernel_rfl)) rfl rfl rfl rfl (fun _ => e_move hk rfl _) fun a hk => ?_
      refine d0 1 hk rfl (chkN_ok (by as_aux_lemma => kernel_rfl)) rfl rfl rfl rfl (fun _ => e_eql (b := true) hk rfl rfl (by decide) _) fun a hk => ?_
      refine d0 2 hk rfl (chkN_ok (by as_aux_lemma => kernel_rfl)) rfl rfl rfl rfl (fun _ => e_move hk rfl _) fun a hk => ?_
      refine d0 3 hk rfl (chkN_ok (by as_aux_lemma => kernel_rfl)) rfl rfl rfl rfl (fun _ => e_field (off := 2) hk rfl Tryd.underlying71 rfl rfl nz69 _) fun a hk => ?_
      refine d1 4 hk rfl (chkN_ok (by as_aux_lemma => kernel_rfl)) rfl rfl rfl rfl (r_load hk rfl Tryd.underlying69 rfl h_b17 rfl) fun a hk => ?_
      refine d0 5 hk rfl (chkN_ok (by as_aux_lemma => kernel_rfl)) rfl rfl rfl rfl (fun _ => e_lenS hk rfl Tryd.underlying69 _) fun a hk => ?_
      refine d0 6 hk rfl (chkN_ok (by as_aux_lemma => kernel_rfl)) rfl rfl rfl rfl (fun _ => e_move hk rfl _) fun a hk => ?_
      refine d0 7 hk rfl (chkN_ok (by as_aux_lemma => kernel_rfl)) rfl rfl rfl rfl (fun _ => e_mul (q := ((2 * d : Nat) : Int)) hk rfl rfl (by rw [i64 (by omega) (by omega)]; omega) _) fun a hk => ?_
      refine d0 8 hk rfl (chkN_ok (by as_aux_lemma => kernel_rfl)) rfl rfl rfl rfl (fun _ => e_leq (b := true) hk rfl rfl (decide_eq_true (by omega)) _) fun a hk => ?_
      refine d0 9 hk rfl (chkN_ok (by as_aux_lemma => kernel_rfl)) rfl rfl rfl rfl (fun _ => e_pickT hk rfl rfl _) fun a hk => ?_
      refine d0 10 hk rfl (chkN_ok (by as_aux_lemma => kernel_rfl)) rfl rfl rfl rfl (fun _ => e_move hk rfl _) fun a hk => ?_
      refine d1 11 hk rfl (chkN_ok (by as_aux_lemma => kernel_rfl)) rfl rfl rfl rfl (r_ld44 hk rfl h_b10 (by simp)) fun a hk => ?_
      refine d1 12 hk rfl (chkN_ok (by as_aux_lemma => kernel_rfl)) rfl rfl rfl rfl (r_loadB hk rfl h_b17 Tryd.underlying71 rfl sz71) fun a hk => ?_
      refine d0 13 hk rfl (chkN_ok (by as_aux_lemma => kernel_rfl)) rfl rfl rfl rfl (fun _ => e_move hk rfl _) fun a hk => ?_
      refine d0 14 hk rfl (chkN_ok (by as_aux_lemma => kernel_rfl)) rfl rfl rfl rfl (fun _ => e_move hk rfl _) fun a hk => ?_
      refine d0 15 hk rfl (chkN_ok (by as_aux_lemma => kernel_rfl)) rfl rfl rfl rfl (fun _ => e_move hk rfl _) fun a hk => ?_
      refine d0 16 hk rfl (chkN_ok (by as_aux_lemma => kernel_rfl)) rfl rfl rfl rfl (fun _ => e_slS hk rfl rfl rfl Tryd.underlying27 sz9 (by omega) (by omega) (by have := hRx.2.1; omega) _) fun a hk => ?_
      have hRk := sub_mid hRx (i := f) (j := f + 1 + g) (by omega) (by omega)
      rw [← List.map_take, ← List.map_drop, show (xs.take (f + 1 + g)).drop f = cut xs f (f + 1 + g) from rfl] at hRk
      rw [Int.toNat_natCast, Int.toNat_natCast] at hk
      have hcl := length_cut xs f (f + 1 + g) (by omega)
      obtain ⟨adk, hadk, hlk2⟩ : ∃ q, (if c2 = f then ad2 else ad2.map (·.add (f * 1))) = q ∧ ∀ b o, q = some ⟨b, o, none⟩ → b < w.heap.size := ⟨_, rfl, sub_blk hRx (by omega)⟩
      rw [hadk] at hk hRk
      have hk := hk.lift 104 (v := .slice adk (cut xs f (f + 1 + g)).length (c2 - f)) (by rw [hcl]; rfl)
      have hRk : Rs w adk (cut xs f (f + 1 + g)).length (c2 - f) (cut xs f (f + 1 + g)) := by rw [hcl]; exact hRk
      have hLc : Lv (cut xs f (f + 1 + g)) := ⟨by omega, fun x hx => hL.2 x (List.mem_of_mem_take (List.mem_of_mem_drop hx))⟩
      refine da 17 hk rfl (chkN_ok (by as_aux_lemma => kernel_rfl)) rfl rfl (a_call hk rfl rfl (c_fn hk rfl ok55) (c55 (rootS xs) (by simp) xs.length f Pn (cut xs f (f + 1 + g)) hLc adp adk cp (c2 - f) _ hRp hlp (by omega) hRk hlk2 (hG.ext hB) ⟨by omega, by omega⟩ ⟨by omega, by omega⟩) ?_)
      rintro e w ⟨rfl, hE⟩
      refine ⟨_, rfl, fun a hk => ?_⟩
      have hRx := hRx.ext hE
      have hlt := blk_ext hlt hE
      have h_b10 := ext_at hE h_b10
      have hRa := hRa.ext hE
      have hla := blk_ext hla hE
      have hRp := hRp.ext hE
      have hlp := blk_ext hlp hE
      have h_b17 := ext_at hE h_b17
      have hB := ext_trans hB hE
      rw [hpok] at hk
      clear hE
      refine d0 18 hk rfl (chkN_ok (by as_aux_lemma => kernel_rfl)) rfl rfl rfl rfl (fun _ => e_eql (b := true) hk rfl rfl (by decide) _) fun a hk => ?_
      refine d0 19 hk rfl (chkN_ok (by as_aux_lemma => kernel_rfl)) rfl rfl rfl rfl (fun _ => e_pickT hk rfl rfl _) fun a hk => ?_
      refine d0 20 hk rfl (chkN_ok (by as_aux_lemma => kernel_rfl)) rfl rfl rfl rfl (fun _ => e_move hk rfl _) fun a hk => ?_
      refine da 21 hk rfl (chkN_ok (by as_aux_lemma => kernel_rfl)) rfl rfl (a_call hk rfl rfl (c_fn (vs := []) hk rfl ok53) (c53 _ (hG.ext hB)) ?_)
      rintro e w ⟨rfl, hE⟩
      refine ⟨_, rfl, fun a hk => ?_⟩
      have hRx := hRx.ext hE
      have hlt := blk_ext hlt hE
      have h_b10 := ext_at hE h_b10
      have hRa := hRa.ext hE
      have hla := blk_ext hla hE
      have hRp := hRp.ext hE
      have hlp := blk_ext hlp hE
      have h_b17 := ext_at hE h_b17
      have hB := ext_trans hB hE
      clear hE
      refine d0 22 hk rfl (chkN_ok (by as_aux_lemma => kernel_rfl)) rfl rfl rfl rfl (fun _ => e_pickT hk rfl rfl _) fun a hk => ?_
      refine d0 23 hk rfl (chkN_ok (by as_aux_lemma => kernel_rfl)) rfl rfl rfl rfl (fun _ => e_assign hk rfl _) fun a hk => ?_
      refine okFin (by as_aux_lemma => kernel_rfl) (hK18 _ _ ?_)
      refine wp_ret ?_
      first
        | exact ret1 hk rfl rfl ⟨rfl, hB⟩
        | (simp only [then_ret]; exact ret1 hk rfl rfl ⟨rfl, hB⟩)

end Go.Proofs.YtidfbboalbchiaaDoor
