/- The walk of the law that a signature binds its index. -/
import Derived.Test.YtidfbboalbchiaaDoorT8
namespace Go.Proofs.YtidfbboalbchiaaDoor
open Go Go.RowKit

theorem pub_ok (x : UInt8) (ht : Nat) (hh : ht ≤ 6) : pubR (List.replicate 32 x) (ht : Int) = (nodeAt (List.replicate 32 x) ht 0, 0) := by
  unfold pubR
  rw [if_neg (by simp; omega)]
  rfl
theorem sig_ok (x : UInt8) (ht i : Nat) (hh : ht ≤ 6) (hi : i < 2 ^ ht) (m : List UInt8) (hm : m.length ≤ 1048576) : sigR (List.replicate 32 x) (ht : Int) (i : Int) m = (signS (List.replicate 32 x) ht i m, 0) := by
  unfold sigR
  rw [if_neg (by simp; omega), if_neg, if_neg (by omega)]
  · rfl
  · rintro (h | h)
    · omega
    · rw [Int.toNat_natCast] at h; have := Int.ofNat_le.1 h; omega
theorem sig_len (s : List UInt8) (h x : Nat) (m : List UInt8) : (signS s h x m).length = (encI x).length + (68 + h) * 16 := by rw [signS_eq, List.length_append, length_body]
theorem shl_ok (ht : Nat) (hh : ht ≤ 6) : IntKind.i64.wrap ((1 : Int) * 2 ^ min ((ht : Nat) : Int).toNat IntKind.i64.bits) = ((2 ^ ht : Nat) : Int) := by
  have h6 : 2 ^ ht ≤ 2 ^ 6 := Nat.pow_le_pow_right (by decide) hh
  rw [Int.toNat_natCast, Nat.min_eq_left (by show _ ≤ 64; omega), show (1 : Int) * 2 ^ ht = ((2 ^ ht : Nat) : Int) by push_cast; omega]
  exact i64 (Int.le_trans (by decide) (Int.natCast_nonneg (2 ^ ht))) (by omega)

set_option maxRecDepth 4000 in
set_option maxHeartbeats 1000000 in
theorem c9 (x y z u : UInt8) (m : List UInt8) (w0 : World) (hG : GH w0) (hGR : GR w0) : Calls Tryd.prog 9 #[B x, B y, B z, B u, Str m] w0 fun e w' => e = .returned (.bool true) ∧ Ext w0 w' := by
  refine start 139 Tryd.func9 rfl rfl rfl fun a hk => ?_
  have hB : Ext w0 w0 := Below.refl _ _
  refine wp_seq_k fun K1 hK1 => ?_
  refine wp_region_lit ?_
  refine ls hk rfl rfl rfl (e_assign hk rfl _) fun a hk => ?_
  refine lnil (hK1 _ _ ?_)
  refine wp_seq_k fun K2 hK2 => ?_
  refine wp_region_lit ?_
  refine la hk rfl (a_call hk rfl rfl (c_fn (vs := []) hk rfl ok33) (c33 _ (hG.ext hB)) ?_)
  rintro e w ⟨rfl, hE⟩
  refine ⟨_, rfl, fun a hk => ?_⟩
  have hB := ext_trans hB hE
  clear hE
  refine ls hk rfl rfl rfl (e_assign hk rfl _) fun a hk => ?_
  refine lnil (hK2 _ _ ?_)
  refine wp_seq_k fun K3 hK3 => ?_
  refine wp_seq_k fun K4 hK4 => ?_
  obtain ⟨ht, hht⟩ : ∃ ht, ht = y.toNat % 3 := ⟨_, rfl⟩
  have hh2 : ht ≤ 2 := by omega
  have hp2 : 2 ^ ht ≤ 2 ^ 2 := Nat.pow_le_pow_right (by decide) hh2
  have hsh := shl_ok ht (by omega)
  have hp0 : 0 < 2 ^ ht := Nat.pow_pos (by decide)
  obtain ⟨i, hi⟩ : ∃ i, i = z.toNat % 2 ^ ht := ⟨_, rfl⟩
  have hil : i < 2 ^ ht := by rw [hi]; exact Nat.mod_lt _ hp0
  obtain ⟨k, hkk⟩ : ∃ k, k = u.toNat % 2 ^ ht := ⟨_, rfl⟩
  have hkl : k < 2 ^ ht := by rw [hkk]; exact Nat.mod_lt _ hp0
  obtain ⟨s, hs, hsl⟩ : ∃ s : List UInt8, List.replicate 32 x = s ∧ s.length = 32 := ⟨_, rfl, by simp⟩
  have hpub := pub_ok x ht (by omega)
  rw [hs] at hpub
  refine wp_region_lit ?_
  refine ls hk rfl rfl rfl (e_move hk rfl _) fun a hk => ?_
  refine ls hk rfl rfl rfl (e_lenStr hk rfl Tryd.underlying9 _) fun a hk => ?_
  refine ls hk rfl rfl rfl (e_gtr hk rfl rfl rfl _) fun a hk => ?_
  refine lnil (hK4 _ _ ?_)
  refine cdB hk rfl (fun hb => ?_) (fun hb => ?_)
  · have hc : m.length > 200 := by have := of_decide_eq_true hb; omega
    refine wp_seq_k fun K5 hK5 => ?_
    refine wp_region_lit ?_
    refine ls hk rfl rfl rfl (e_move hk rfl _) fun a hk => ?_
    refine ls hk rfl rfl rfl (e_assign hk rfl _) fun a hk => ?_
    refine lnil (hK5 _ _ ?_)
    refine wp_ret ?_
    first
      | exact ret1 hk rfl rfl ⟨rfl, hB⟩
      | (simp only [then_ret]; exact ret1 hk rfl rfl ⟨rfl, hB⟩)
  · have hc : m.length ≤ 200 := by have := of_decide_eq_false hb; omega
    have hsig := sig_ok x ht i (by omega) hil m (by omega)
    rw [hs] at hsig
    have hsik := sig_ok x ht k (by omega) hkl m (by omega)
    rw [hs] at hsik
    obtain ⟨n, hn⟩ : ∃ n, n = (68 + ht) * 16 := ⟨_, rfl⟩
    obtain ⟨p, g, t, hp, hg, ht', hp16, hgn, hgl, htn, htl, hsame⟩ : ∃ p g t : List UInt8, nodeAt s ht 0 = p ∧ signS s ht i m = g ∧ signS s ht k m = t ∧ p.length = 16 ∧ n ≤ g.length ∧ g.length ≤ 2000 ∧ n ≤ t.length ∧ t.length ≤ 2000 ∧ (i = k → verR p ht m (t.take (t.length - n) ++ g.drop (g.length - n)) = ((i : Int), 0)) := by
      have h1 := sig_len s ht i m
      have h2 := sig_len s ht k m
      have h3 := length_encI_le (i : Int)
      have h4 := length_encI_le (k : Int)
      refine ⟨_, _, _, rfl, rfl, rfl, by simp, by omega, by omega, by omega, by omega, fun e => ?_⟩
      rw [← e, List.take_append_drop]
      exact verR_sign s ht i m (by omega) hil (by omega)
    rw [hp] at hpub
    rw [hg] at hsig
    rw [ht'] at hsik
    obtain ⟨mx, hmx⟩ : ∃ mx, t.take (t.length - n) ++ g.drop (g.length - n) = mx := ⟨_, rfl⟩
    have hml : mx.length ≤ 4000 := by rw [← hmx, List.length_append, List.length_take, List.length_drop]; omega
    rw [hmx] at hsame
    obtain ⟨vr, hvr⟩ : ∃ vr, verR p ht m mx = vr := ⟨_, rfl⟩
    rw [hvr] at hsame
    refine wp_skip (hK3 _ _ ?_)
    refine wp_seq_k fun K6 hK6 => ?_
    refine wp_region_lit ?_
    refine ls hk rfl rfl rfl (e_move hk rfl _) fun a hk => ?_
    refine ls hk rfl rfl rfl (e_conv (q := ((y.toNat : Nat) : Int)) hk rfl Tryd.underlying5 Tryd.underlying3 (i64 (by have := y.toNat_lt; omega) (by have := y.toNat_lt; omega)) _) fun a hk => ?_
    refine ls hk rfl rfl rfl (e_rem (q := ((ht : Nat) : Int)) hk rfl rfl (by decide) (by rw [hht]; exact i_rem y.toNat 3) _) fun a hk => ?_
    refine ls hk rfl rfl rfl (e_assign hk rfl _) fun a hk => ?_
    refine lnil (hK6 _ _ ?_)
    refine wp_seq_k fun K7 hK7 => ?_
    refine wp_region_lit ?_
    refine ls hk rfl rfl rfl (e_move hk rfl _) fun a hk => ?_
    refine ls hk rfl rfl rfl (e_conv (q := ((z.toNat : Nat) : Int)) hk rfl Tryd.underlying5 Tryd.underlying3 (i64 (by have := z.toNat_lt; omega) (by have := z.toNat_lt; omega)) _) fun a hk => ?_
    refine ls hk rfl rfl rfl (e_move hk rfl _) fun a hk => ?_
    refine ls hk rfl rfl rfl (e_shl (q := ((2 ^ ht : Nat) : Int)) hk rfl rfl (by omega) hsh _) fun a hk => ?_
    refine ls hk rfl rfl rfl (e_rem (q := ((i : Nat) : Int)) hk rfl rfl (by omega) (by rw [hi]; exact i_rem z.toNat (2 ^ ht)) _) fun a hk => ?_
    refine ls hk rfl rfl rfl (e_assign hk rfl _) fun a hk => ?_
    refine lnil (hK7 _ _ ?_)
    refine wp_seq_k fun K8 hK8 => ?_
    refine wp_region_lit ?_
    refine ls hk rfl rfl rfl (e_move hk rfl _) fun a hk => ?_
    refine ls hk rfl rfl rfl (e_conv (q := ((u.toNat : Nat) : Int)) hk rfl Tryd.underlying5 Tryd.underlying3 (i64 (by have := u.toNat_lt; omega) (by have := u.toNat_lt; omega)) _) fun a hk => ?_
    refine ls hk rfl rfl rfl (e_move hk rfl _) fun a hk => ?_
    refine ls hk rfl rfl rfl (e_shl (q := ((2 ^ ht : Nat) : Int)) hk rfl rfl (by omega) hsh _) fun a hk => ?_
    refine ls hk rfl rfl rfl (e_rem (q := ((k : Nat) : Int)) hk rfl rfl (by omega) (by rw [hkk]; exact i_rem u.toNat (2 ^ ht)) _) fun a hk => ?_
    refine ls hk rfl rfl rfl (e_assign hk rfl _) fun a hk => ?_
    refine lnil (hK8 _ _ ?_)
    refine wp_seq_k fun K9 hK9 => ?_
    refine wp_region_lit ?_
    refine ls hk rfl rfl rfl (e_move hk rfl _) fun a hk => ?_
    refine la hk rfl (a_call hk rfl rfl (c_fn hk rfl ok38) (c38 x _) ?_)
    rintro e w ⟨rfl, hE⟩
    refine ⟨_, rfl, fun a hk => ?_⟩
    have hB := ext_trans hB hE
    rw [hs] at hk
    clear hE
    refine ls hk rfl rfl rfl (e_move hk rfl _) fun a hk => ?_
    refine la hk rfl (a_call hk rfl rfl (c_fn hk rfl ok37) (c37 s ht _ (hG.ext hB) (by omega)) ?_)
    rintro e w ⟨rfl, hE⟩
    refine ⟨_, rfl, fun a hk => ?_⟩
    have hB := ext_trans hB hE
    rw [hpub] at hk
    clear hE
    refine ls hk rfl rfl rfl (e_move hk rfl _) fun a hk => ?_
    refine ls hk rfl rfl rfl (e_ext hk rfl rfl _) fun a hk => ?_
    refine ls hk rfl rfl rfl (e_ext hk rfl rfl _) fun a hk => ?_
    refine la hk rfl (a_alloc hk rfl zr44 fun a w b15 hk G => ?_)
    have hg_b15 : w0.heap.size ≤ b15 := Nat.le_trans hB.size G.ge
    have hB := ext_trans hB G.ext
    have h_b15 := G.at_
    clear G
    refine la hk rfl (a_st44 (l := p) hk rfl rfl hp16 h_b15 rfl fun a w hk W => ?_)
    have hB := W.below hB hg_b15
    have h_b15 := W.at_
    clear W
    refine ls hk rfl rfl rfl (e_assign hk rfl _) fun a hk => ?_
    refine lnil (hK9 _ _ ?_)
    refine wp_seq_k fun K10 hK10 => ?_
    refine wp_region_lit ?_
    refine ls hk rfl rfl rfl (e_move hk rfl _) fun a hk => ?_
    refine la hk rfl (a_call hk rfl rfl (c_fn hk rfl ok38) (c38 x _) ?_)
    rintro e w ⟨rfl, hE⟩
    refine ⟨_, rfl, fun a hk => ?_⟩
    have h_b15 := ext_at hE h_b15
    have hB := ext_trans hB hE
    rw [hs] at hk
    clear hE
    refine ls hk rfl rfl rfl (e_move hk rfl _) fun a hk => ?_
    refine ls hk rfl rfl rfl (e_move hk rfl _) fun a hk => ?_
    refine ls hk rfl rfl rfl (e_move hk rfl _) fun a hk => ?_
    refine la hk rfl (a_call hk rfl rfl (c_fn hk rfl ok39) (c39 s ht i (is64_n (by omega)) m (by omega) _ (hG.ext hB)) ?_)
    rintro e w ⟨rfl, hE⟩
    refine ⟨_, rfl, fun a hk => ?_⟩
    have h_b15 := ext_at hE h_b15
    have hB := ext_trans hB hE
    rw [hsig] at hk
    clear hE
    refine ls hk rfl rfl rfl (e_move hk rfl _) fun a hk => ?_
    refine ls hk rfl rfl rfl (e_ext hk rfl rfl _) fun a hk => ?_
    have hk := hk.lift 59 (v := Str g) rfl
    refine ls hk rfl rfl rfl (e_ext hk rfl rfl _) fun a hk => ?_
    refine ls hk rfl rfl rfl (e_assign hk rfl _) fun a hk => ?_
    refine ls hk rfl rfl rfl (e_assign hk rfl _) fun a hk => ?_
    refine lnil (hK10 _ _ ?_)
    refine wp_seq_k fun K11 hK11 => ?_
    refine wp_region_lit ?_
    refine ls hk rfl rfl rfl (e_move hk rfl _) fun a hk => ?_
    refine la hk rfl (a_call hk rfl rfl (c_fn hk rfl ok38) (c38 x _) ?_)
    rintro e w ⟨rfl, hE⟩
    refine ⟨_, rfl, fun a hk => ?_⟩
    have h_b15 := ext_at hE h_b15
    have hB := ext_trans hB hE
    rw [hs] at hk
    clear hE
    refine ls hk rfl rfl rfl (e_move hk rfl _) fun a hk => ?_
    refine ls hk rfl rfl rfl (e_move hk rfl _) fun a hk => ?_
    refine ls hk rfl rfl rfl (e_move hk rfl _) fun a hk => ?_
    refine la hk rfl (a_call hk rfl rfl (c_fn hk rfl ok39) (c39 s ht k (is64_n (by omega)) m (by omega) _ (hG.ext hB)) ?_)
    rintro e w ⟨rfl, hE⟩
    refine ⟨_, rfl, fun a hk => ?_⟩
    have h_b15 := ext_at hE h_b15
    have hB := ext_trans hB hE
    rw [hsik] at hk
    clear hE
    refine ls hk rfl rfl rfl (e_move hk rfl _) fun a hk => ?_
    refine ls hk rfl rfl rfl (e_ext hk rfl rfl _) fun a hk => ?_
    have hk := hk.lift 68 (v := Str t) rfl
    refine ls hk rfl rfl rfl (e_ext hk rfl rfl _) fun a hk => ?_
    refine ls hk rfl rfl rfl (e_assign hk rfl _) fun a hk => ?_
    refine ls hk rfl rfl rfl (e_assign hk rfl _) fun a hk => ?_
    refine lnil (hK11 _ _ ?_)
    refine wp_seq_k fun K12 hK12 => ?_
    refine wp_seq_k fun K13 hK13 => ?_
    refine wp_region_lit ?_
    refine ls hk rfl rfl rfl (e_move hk rfl _) fun a hk => ?_
    refine ls hk rfl rfl rfl (e_neq (b := false) hk rfl rfl (by simp) _) fun a hk => ?_
    refine ls hk rfl rfl rfl (e_move hk rfl _) fun a hk => ?_
    refine ls hk rfl rfl rfl (e_move hk rfl _) fun a hk => ?_
    refine ls hk rfl rfl rfl (e_lenStr hk rfl Tryd.underlying9 _) fun a hk => ?_
    refine ls hk rfl rfl rfl (e_lss (b := false) hk rfl rfl (decide_eq_false (by omega)) _) fun a hk => ?_
    refine ls hk rfl rfl rfl (e_pickF hk rfl rfl _) fun a hk => ?_
    refine lnil (hK13 _ _ ?_)
    refine cdF hk rfl ?_
    refine wp_skip (hK12 _ _ ?_)
    refine wp_seq_k fun K14 hK14 => ?_
    refine wp_region_lit ?_
    refine ls hk rfl rfl rfl (e_move hk rfl _) fun a hk => ?_
    refine ls hk rfl rfl rfl (e_add (q := ((68 + ht : Nat) : Int)) hk rfl rfl (by rw [i64 (by omega) (by omega)]; omega) _) fun a hk => ?_
    refine ls hk rfl rfl rfl (e_mul (q := ((n : Nat) : Int)) hk rfl rfl (by rw [i64 (by omega) (by omega)]; omega) _) fun a hk => ?_
    refine ls hk rfl rfl rfl (e_assign hk rfl _) fun a hk => ?_
    refine lnil (hK14 _ _ ?_)
    refine wp_seq_k fun K15 hK15 => ?_
    refine wp_seq_k fun K16 hK16 => ?_
    refine wp_region_lit ?_
    refine ls hk rfl rfl rfl (e_move hk rfl _) fun a hk => ?_
    refine ls hk rfl rfl rfl (e_lenStr hk rfl Tryd.underlying9 _) fun a hk => ?_
    refine ls hk rfl rfl rfl (e_move hk rfl _) fun a hk => ?_
    refine ls hk rfl rfl rfl (e_lss (b := false) hk rfl rfl (decide_eq_false (by omega)) _) fun a hk => ?_
    refine ls hk rfl rfl rfl (e_move hk rfl _) fun a hk => ?_
    refine ls hk rfl rfl rfl (e_move hk rfl _) fun a hk => ?_
    refine ls hk rfl rfl rfl (e_lenStr hk rfl Tryd.underlying9 _) fun a hk => ?_
    refine ls hk rfl rfl rfl (e_move hk rfl _) fun a hk => ?_
    refine ls hk rfl rfl rfl (e_lss (b := false) hk rfl rfl (decide_eq_false (by omega)) _) fun a hk => ?_
    refine ls hk rfl rfl rfl (e_pickF hk rfl rfl _) fun a hk => ?_
    refine lnil (hK16 _ _ ?_)
    refine cdF hk rfl ?_
    refine wp_skip (hK15 _ _ ?_)
    refine wp_seq_k fun K17 hK17 => ?_
    refine wp_region_ok (fun _ => True) [0, 0, 0, 0, 0, 0, 0, 0, 0, 0, 0, 0, 0, 0] mixed ?_
    have hB := hB.drew
    have h_b15 := ext_at (ext_drew w) h_b15
    refine d0 0 hk rfl (by kernel_rfl) rfl rfl rfl rfl (fun _ => e_move hk rfl _) fun a hk => ?_
    refine d0 1 hk rfl (by kernel_rfl) rfl rfl rfl rfl (fun _ => e_move hk rfl _) fun a hk => ?_
    refine d0 2 hk rfl (by kernel_rfl) rfl rfl rfl rfl (fun _ => e_lenStr hk rfl Tryd.underlying9 _) fun a hk => ?_
    refine d0 3 hk rfl (by kernel_rfl) rfl rfl rfl rfl (fun _ => e_move hk rfl _) fun a hk => ?_
    refine d0 4 hk rfl (by kernel_rfl) rfl rfl rfl rfl (fun _ => e_sub (q := ((t.length - n : Nat) : Int)) hk rfl rfl (by rw [i64 (by omega) (by omega)]; omega) _) fun a hk => ?_
    refine d0 5 hk rfl (by kernel_rfl) rfl rfl rfl rfl (fun _ => e_slStrToN (t.length - n) hk rfl rfl Tryd.underlying9 rfl (by omega) _) fun a hk => ?_
    refine d0 6 hk rfl (by kernel_rfl) rfl rfl rfl rfl (fun _ => e_move hk rfl _) fun a hk => ?_
    refine d0 7 hk rfl (by kernel_rfl) rfl rfl rfl rfl (fun _ => e_move hk rfl _) fun a hk => ?_
    refine d0 8 hk rfl (by kernel_rfl) rfl rfl rfl rfl (fun _ => e_lenStr hk rfl Tryd.underlying9 _) fun a hk => ?_
    refine d0 9 hk rfl (by kernel_rfl) rfl rfl rfl rfl (fun _ => e_move hk rfl _) fun a hk => ?_
    refine d0 10 hk rfl (by kernel_rfl) rfl rfl rfl rfl (fun _ => e_sub (q := ((g.length - n : Nat) : Int)) hk rfl rfl (by rw [i64 (by omega) (by omega)]; omega) _) fun a hk => ?_
    refine d0 11 hk rfl (by kernel_rfl) rfl rfl rfl rfl (fun _ => e_slStrFromN (g.length - n) hk rfl rfl Tryd.underlying9 rfl (by omega) _) fun a hk => ?_
    refine d0 12 hk rfl (by kernel_rfl) rfl rfl rfl rfl (fun _ => e_sadd (s := t.take (t.length - n)) (u := g.drop (g.length - n)) hk rfl rfl (by rw [List.length_take, List.length_drop]; omega) _) fun a hk => ?_
    rw [hmx] at hk
    refine d0 13 hk rfl (by kernel_rfl) rfl rfl rfl rfl (fun _ => e_assign hk rfl _) fun a hk => ?_
    refine okFin (by kernel_rfl) (hK17 _ _ ?_)
    refine wp_seq_k fun K18 hK18 => ?_
    refine wp_region_lit ?_
    refine ls hk rfl rfl rfl (r_ld44 hk rfl h_b15 hp16) fun a hk => ?_
    refine ls hk rfl rfl rfl (e_move hk rfl _) fun a hk => ?_
    refine ls hk rfl rfl rfl (e_move hk rfl _) fun a hk => ?_
    refine ls hk rfl rfl rfl (e_move hk rfl _) fun a hk => ?_
    refine la hk rfl (a_call hk rfl rfl (c_fn hk rfl ok40) (c40 p hp16 ht m mx (by omega) (by omega) _ (hG.ext hB)) ?_)
    rintro e w ⟨rfl, hE⟩
    refine ⟨_, rfl, fun a hk => ?_⟩
    have h_b15 := ext_at hE h_b15
    have hB := ext_trans hB hE
    rw [hvr] at hk
    clear hE
    refine ls hk rfl rfl rfl (e_move hk rfl _) fun a hk => ?_
    refine ls hk rfl rfl rfl (e_ext hk rfl rfl _) fun a hk => ?_
    refine ls hk rfl rfl rfl (e_ext hk rfl rfl _) fun a hk => ?_
    refine ls hk rfl rfl rfl (e_assign hk rfl _) fun a hk => ?_
    refine ls hk rfl rfl rfl (e_assign hk rfl _) fun a hk => ?_
    refine lnil (hK18 _ _ ?_)
    refine wp_seq_k fun K19 hK19 => ?_
    refine wp_region_lit ?_
    refine ls hk rfl rfl rfl (r_ld44 hk rfl h_b15 hp16) fun a hk => ?_
    refine ls hk rfl rfl rfl (e_move hk rfl _) fun a hk => ?_
    refine ls hk rfl rfl rfl (e_move hk rfl _) fun a hk => ?_
    refine ls hk rfl rfl rfl (e_move hk rfl _) fun a hk => ?_
    refine la hk rfl (a_call hk rfl rfl (c_fn hk rfl ok41) (c41 p hp16 ht m mx (by omega) (by omega) _ (hGR.ext hB)) ?_)
    rintro e w ⟨rfl, hE⟩
    refine ⟨_, rfl, fun a hk => ?_⟩
    have h_b15 := ext_at hE h_b15
    have hB := ext_trans hB hE
    rw [hvr] at hk
    clear hE
    refine ls hk rfl rfl rfl (e_move hk rfl _) fun a hk => ?_
    refine ls hk rfl rfl rfl (e_ext hk rfl rfl _) fun a hk => ?_
    refine ls hk rfl rfl rfl (e_ext hk rfl rfl _) fun a hk => ?_
    refine ls hk rfl rfl rfl (e_assign hk rfl _) fun a hk => ?_
    refine ls hk rfl rfl rfl (e_assign hk rfl _) fun a hk => ?_
    refine lnil (hK19 _ _ ?_)
    refine wp_seq_k fun K20 hK20 => ?_
    by_cases hik : i = k
    · have hv := hsame hik
      rw [hv] at hk
      refine wp_region_lit ?_
      refine ls hk rfl rfl rfl (e_move hk rfl _) fun a hk => ?_
      refine ls hk rfl rfl rfl (e_move hk rfl _) fun a hk => ?_
      refine ls hk rfl rfl rfl (e_move hk rfl _) fun a hk => ?_
      refine ls hk rfl rfl rfl (e_move hk rfl _) fun a hk => ?_
      refine ls hk rfl rfl rfl (e_eql (b := true) hk rfl rfl (by simp) _) fun a hk => ?_
      refine ls hk rfl rfl rfl (e_pickT hk rfl rfl _) fun a hk => ?_
      refine ls hk rfl rfl rfl (e_move hk rfl _) fun a hk => ?_
      refine ls hk rfl rfl rfl (e_move hk rfl _) fun a hk => ?_
      refine ls hk rfl rfl rfl (e_move hk rfl _) fun a hk => ?_
      refine ls hk rfl rfl rfl (e_eql (b := true) hk rfl rfl (by simp) _) fun a hk => ?_
      refine ls hk rfl rfl rfl (e_pickT hk rfl rfl _) fun a hk => ?_
      refine ls hk rfl rfl rfl (e_move hk rfl _) fun a hk => ?_
      refine ls hk rfl rfl rfl (e_move hk rfl _) fun a hk => ?_
      refine ls hk rfl rfl rfl (e_move hk rfl _) fun a hk => ?_
      refine ls hk rfl rfl rfl (e_neq (b := false) hk rfl rfl (by simp [hik]) _) fun a hk => ?_
      refine ls hk rfl rfl rfl (e_move hk rfl _) fun a hk => ?_
      refine ls hk rfl rfl rfl (e_move hk rfl _) fun a hk => ?_
      refine ls hk rfl rfl rfl (e_eql (b := true) hk rfl rfl (by simp) _) fun a hk => ?_
      refine ls hk rfl rfl rfl (e_pickF hk rfl rfl _) fun a hk => ?_
      refine ls hk rfl rfl rfl (e_pickT hk rfl rfl _) fun a hk => ?_
      refine ls hk rfl rfl rfl (e_assign hk rfl _) fun a hk => ?_
      refine lnil (hK20 _ _ ?_)
      refine wp_ret ?_
      first
        | exact ret1 hk rfl rfl ⟨rfl, hB⟩
        | (simp only [then_ret]; exact ret1 hk rfl rfl ⟨rfl, hB⟩)
    · refine wp_region_lit ?_
      refine ls hk rfl rfl rfl (e_move hk rfl _) fun a hk => ?_
      refine ls hk rfl rfl rfl (e_move hk rfl _) fun a hk => ?_
      refine ls hk rfl rfl rfl (e_move hk rfl _) fun a hk => ?_
      refine ls hk rfl rfl rfl (e_move hk rfl _) fun a hk => ?_
      refine ls hk rfl rfl rfl (e_eql (b := true) hk rfl rfl (by simp) _) fun a hk => ?_
      refine ls hk rfl rfl rfl (e_pickT hk rfl rfl _) fun a hk => ?_
      refine ls hk rfl rfl rfl (e_move hk rfl _) fun a hk => ?_
      refine ls hk rfl rfl rfl (e_move hk rfl _) fun a hk => ?_
      refine ls hk rfl rfl rfl (e_move hk rfl _) fun a hk => ?_
      refine ls hk rfl rfl rfl (e_eql (b := true) hk rfl rfl (by simp) _) fun a hk => ?_
      refine ls hk rfl rfl rfl (e_pickT hk rfl rfl _) fun a hk => ?_
      refine ls hk rfl rfl rfl (e_move hk rfl _) fun a hk => ?_
      refine ls hk rfl rfl rfl (e_move hk rfl _) fun a hk => ?_
      refine ls hk rfl rfl rfl (e_move hk rfl _) fun a hk => ?_
      refine ls hk rfl rfl rfl (e_neq (b := true) hk rfl rfl (by simp; omega) _) fun a hk => ?_
      refine ls hk rfl rfl rfl (e_move hk rfl _) fun a hk => ?_
      refine lno hk rfl rfl rfl fun a hk => ?_
      refine lno hk rfl rfl rfl fun a hk => ?_
      refine ls hk rfl rfl rfl (e_pickT hk rfl rfl _) fun a hk => ?_
      refine ls hk rfl rfl rfl (e_pickT hk rfl rfl _) fun a hk => ?_
      refine ls hk rfl rfl rfl (e_assign hk rfl _) fun a hk => ?_
      refine lnil (hK20 _ _ ?_)
      refine wp_ret ?_
      first
        | exact ret1 hk rfl rfl ⟨rfl, hB⟩
        | (simp only [then_ret]; exact ret1 hk rfl rfl ⟨rfl, hB⟩)

end Go.Proofs.YtidfbboalbchiaaDoor
