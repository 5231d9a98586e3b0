/- The walk of the law of parts of trees. -/
import Derived.Test.YtidfbboalbchiaaDoorT12
namespace Go.Proofs.YtidfbboalbchiaaDoor
open Go Go.RowKit

theorem blk_ext {w w' : World} {ad : Option Addr} (h : ∀ b o, ad = some ⟨b, o, none⟩ → b < w.heap.size) (hE : Ext w w') : ∀ b o, ad = some ⟨b, o, none⟩ → b < w'.heap.size := fun b o e => Nat.lt_of_lt_of_le (h b o e) hE.size
theorem blk_wrote {w w' : World} {ad : Option Addr} {g : Nat} {ob : Obj} (h : ∀ b o, ad = some ⟨b, o, none⟩ → b < w.heap.size) (hW : Wrote w w' g ob) : ∀ b o, ad = some ⟨b, o, none⟩ → b < w'.heap.size := fun b o e => by rw [hW.size]; exact h b o e

set_option maxRecDepth 4000 in
set_option maxHeartbeats 1000000 in
theorem c16 (l : List Int) (hl64 : ∀ n ∈ l, is64 n) (ad : Option Addr) (c : Nat) (w0 : World) (hR : Ri w0 ad l.length c l) (hG : GH w0) :
    Calls Tryd.prog 16 #[.slice ad l.length c] w0 fun e w' => e = .returned (.bool true) ∧ Ext w0 w' := by
  refine start 64 Tryd.func16 rfl rfl rfl fun a hk => ?_
  have hB : Ext w0 w0 := Below.refl _ _
  refine wp_seq_k fun K1 hK1 => ?_
  refine wp_region_lit ?_
  refine ls hk rfl rfl rfl (e_assign hk rfl _) fun a hk => ?_
  refine lnil (hK1 _ _ ?_)
  refine wp_seq_k fun K2 hK2 => ?_
  refine wp_region_lit ?_
  refine ls hk rfl rfl rfl (e_move hk rfl _) fun a hk => ?_
  refine la hk rfl (a_call hk rfl rfl (c_fn hk rfl ok44) (c44 l hl64 ad c _ (Rd.ext hR hB)) ?_)
  rintro e w ⟨⟨ad2, c2, xs, rfl, hRx, h20, hL, hlt⟩, hE⟩
  refine ⟨_, rfl, fun a hk => ?_⟩
  have hB := ext_trans hB hE
  clear hE
  refine ls hk rfl rfl rfl (e_assign hk rfl _) fun a hk => ?_
  refine lnil (hK2 _ _ ?_)
  refine wp_seq_k fun K3 hK3 => ?_
  refine wp_seq_k fun K4 hK4 => ?_
  refine wp_region_lit ?_
  refine ls hk rfl rfl rfl (e_move hk rfl _) fun a hk => ?_
  refine ls hk rfl rfl rfl (e_lenS hk rfl Tryd.underlying27 _) fun a hk => ?_
  refine ls hk rfl rfl rfl (e_eql hk rfl rfl rfl _) fun a hk => ?_
  refine lnil (hK4 _ _ ?_)
  refine cdB hk rfl (fun hb => ?_) (fun hb => ?_)
  · have h0 : xs.length = 0 := by have := of_decide_eq_true hb; omega
    obtain rfl := List.length_eq_zero_iff.1 h0
    refine wp_seq_k fun K5 hK5 => ?_
    refine wp_region_lit ?_
    refine ls hk rfl rfl rfl (e_move hk rfl _) fun a hk => ?_
    refine la hk rfl (a_call hk rfl rfl (c_fn hk rfl ok46) (c46 [] hL ad2 c2 _ hRx (hG.ext hB)) ?_)
    rintro e w ⟨rfl, hE⟩
    refine ⟨_, rfl, fun a hk => ?_⟩
    have hRx := hRx.ext hE
    have hlt := blk_ext hlt hE
    have hB := ext_trans hB hE
    rw [rootS_nil] at hk
    clear hE
    refine la hk rfl (a_call hk rfl rfl (c_fn hk rfl ok35) (c35 2 [] none 0 _ rd_none (hG.ext hB) (by decide) (by simp)) ?_)
    rintro e w ⟨rfl, hE⟩
    refine ⟨_, rfl, fun a hk => ?_⟩
    have hRx := hRx.ext hE
    have hlt := blk_ext hlt hE
    have hB := ext_trans hB hE
    clear hE
    refine ls hk rfl rfl rfl (e_eqA (l := ofD 2 []) (r := ofD 2 []) (b := true) hk rfl rfl Tryd.underlying44 Tryd.underlying5 sz5 (by simp) (by simp) eg44 (decide_eq_true rfl) _) fun a hk => ?_
    refine ls hk rfl rfl rfl (e_move hk rfl _) fun a hk => ?_
    refine la hk rfl (a_call hk rfl rfl (c_fn (vs := []) hk rfl ok53) (c53 _ (hG.ext hB)) ?_)
    rintro e w ⟨rfl, hE⟩
    refine ⟨_, rfl, fun a hk => ?_⟩
    have hRx := hRx.ext hE
    have hlt := blk_ext hlt hE
    have hB := ext_trans hB hE
    clear hE
    refine ls hk rfl rfl rfl (e_pickT hk rfl rfl _) fun a hk => ?_
    refine ls hk rfl rfl rfl (e_assign hk rfl _) fun a hk => ?_
    refine lnil (hK5 _ _ ?_)
    refine wp_ret ?_
    first
      | exact ret1 hk rfl rfl ⟨rfl, hB⟩
      | (simp only [then_ret]; exact ret1 hk rfl rfl ⟨rfl, hB⟩)
  · have h0 : ¬ xs.length = 0 := by have := of_decide_eq_false hb; omega
    refine wp_skip (hK3 _ _ ?_)
    refine wp_seq_k fun K6 hK6 => ?_
    refine wp_seq_k fun K7 hK7 => ?_
    refine wp_region_lit ?_
    refine ls hk rfl rfl rfl (e_move hk rfl _) fun a hk => ?_
    refine ls hk rfl rfl rfl (e_lenS hk rfl Tryd.underlying27 _) fun a hk => ?_
    refine ls hk rfl rfl rfl (e_eql hk rfl rfl rfl _) fun a hk => ?_
    refine lnil (hK7 _ _ ?_)
    refine cdB hk rfl (fun hb => ?_) (fun hb => ?_)
    · have h1 : xs.length = 1 := by have := of_decide_eq_true hb; omega
      obtain ⟨s0, rfl⟩ := List.length_eq_one_iff.1 h1
      refine wp_seq_k fun K8 hK8 => ?_
      refine wp_region_ok (fun _ => True) [] mixed ?_
      have hB := hB.drew
      have hRx : Rs w.drew ad2 [s0].length c2 [s0] := Rd.ext hRx (ext_drew w)
      refine okFront (fun k => Nat.blt k 8) (fun d a w => ∃ v0 v1 v2 v3 v4 v5 v6 v7 : Value, Kn a 64 [(20, v0), (21, v1), (22, v2), (23, v3), (24, v4), (25, v5), (26, v6), (27, v7), (3, Value.slice ad2 [s0].length c2)] ∧ (Below w0.heap.size w0 w) ∧ (Rs w ad2 [s0].length c2 [s0]) ∧ (d 0 = true → v0 = Value.slice ad2 [s0].length c2) ∧ (d 1 = true → v1 = D (leafS s0)) ∧ (d 2 = true → v2 = Value.slice ad2 [s0].length c2) ∧ (d 3 = true → ∃ b o, v3 = .pointer (some ⟨b, o, none⟩) ∧ w.cell? ⟨b, o, none⟩ = some (Str s0)) ∧ (d 4 = true → v4 = Str s0) ∧ (d 5 = true → ∃ b, v5 = .slice (some ⟨b, 0, none⟩) 1 1 ∧ w.heap[b]? = some (.cells #[Str s0] 9 (0, 0))) ∧ (d 6 = true → v6 = D (leafS s0)) ∧ (d 7 = true → v7 = Value.bool true)) 4 (frontN_ok (by as_aux_lemma => kernel_rfl)) (fun k hk => Nat.lt_of_lt_of_le (blt_lt hk) (by decide)) ⟨_, _, _, _, _, _, _, _, ((((((((hk.own 27).own 26).own 25).own 24).own 23).own 22).own 21).own 20).sub _ ⟨rfl, rfl, rfl, rfl, rfl, rfl, rfl, rfl, rfl, trivial⟩, hB, hRx, fun h => noF h, fun h => noF h, fun h => noF h, fun h => noF h, fun h => noF h, fun h => noF h, fun h => noF h, fun h => noF h⟩ (fun a w hJ => ?_) ?_
      · obtain ⟨v0, v1, v2, v3, v4, v5, v6, v7, hk, hB, hRx, f0, f1, f2, f3, f4, f5, f6, f7⟩ := hJ
        have p0 := f0 rfl
        have p1 := f1 rfl
        have p2 := f2 rfl
        have p3 := f3 rfl
        have p4 := f4 rfl
        have p5 := f5 rfl
        have p6 := f6 rfl
        have p7 := f7 rfl
        subst p7
        clear p0 p1 p2 p3 p4 p5 p6
        refine da 8 hk rfl (chkN_ok (by as_aux_lemma => kernel_rfl)) rfl rfl (ev_act hk rfl rfl (e_move hk rfl _) fun a hk => ?_)
        refine da 9 hk rfl (chkN_ok (by as_aux_lemma => kernel_rfl)) rfl rfl (a_call hk rfl rfl (c_fn (vs := []) hk rfl ok53) (c53 _ (hG.ext hB)) ?_)
        rintro e w ⟨rfl, hE⟩
        refine ⟨_, rfl, fun a hk => ?_⟩
        have hB := ext_trans hB hE
        refine da 10 hk rfl (chkN_ok (by as_aux_lemma => kernel_rfl)) rfl rfl (ev_act hk rfl rfl (e_pickT hk rfl rfl _) fun a hk => ?_)
        refine da 11 hk rfl (chkN_ok (by as_aux_lemma => kernel_rfl)) rfl rfl (ev_act hk rfl rfl (e_assign hk rfl _) fun a hk => ?_)
        refine okFin (by as_aux_lemma => kernel_rfl) (hK8 _ _ ?_)
        refine wp_ret ?_
        first
          | exact ret1 hk rfl rfl ⟨rfl, hB⟩
          | (simp only [then_ret]; exact ret1 hk rfl rfl ⟨rfl, hB⟩)
      refine ⟨?_, ?_, ?_, ?_, ?_, ?_, ?_, ?_, ?_, ?_, ?_, ?_, trivial⟩
      · intro _ d a w hr hJ
        obtain ⟨v0, v1, v2, v3, v4, v5, v6, v7, hk, hB, hRx, f0, f1, f2, f3, f4, f5, f6, f7⟩ := hJ
        refine wa hk rfl rfl ?_
        refine ev_act hk rfl rfl (e_move hk rfl _) fun a hk => ?_
        have new : Value.slice ad2 [s0].length c2 = Value.slice ad2 [s0].length c2 := rfl
        exact ⟨_, _, _, _, _, _, _, _, hk.sub _ ⟨rfl, rfl, rfl, rfl, rfl, rfl, rfl, rfl, rfl, trivial⟩, hB, hRx, fun _ => new, fun h => f1 h, fun h => f2 h, fun h => f3 h, fun h => f4 h, fun h => f5 h, fun h => f6 h, fun h => f7 h⟩
      · intro _ d a w hr hJ
        obtain ⟨v0, v1, v2, v3, v4, v5, v6, v7, hk, hB, hRx, f0, f1, f2, f3, f4, f5, f6, f7⟩ := hJ
        obtain rfl := f0 (rdy_pre hr 0 (by kernel_rfl))
        refine wa hk rfl rfl ?_
        refine a_call hk rfl rfl (c_fn hk rfl ok46) (c46 [s0] hL ad2 c2 _ hRx (hG.ext hB)) ?_
        rintro e w' ⟨rfl, hE⟩
        refine ⟨_, rfl, fun a hk => ?_⟩
        rw [rootS_one] at hk
        have new : D (leafS s0) = D (leafS s0) := rfl
        exact ⟨_, _, _, _, _, _, _, _, hk.sub _ ⟨rfl, rfl, rfl, rfl, rfl, rfl, rfl, rfl, rfl, trivial⟩, ext_trans hB hE, Rd.ext hRx hE, fun h => f0 h, fun _ => new, fun h => f2 h, fun h => by have f := f3 h; exact by obtain ⟨b, o, e, h⟩ := f; exact ⟨b, o, e, ext_cell hE h⟩, fun h => f4 h, fun h => by have f := f5 h; exact by obtain ⟨b, e, h⟩ := f; exact ⟨b, e, ext_at hE h⟩, fun h => f6 h, fun h => f7 h⟩
      · intro _ d a w hr hJ
        obtain ⟨v0, v1, v2, v3, v4, v5, v6, v7, hk, hB, hRx, f0, f1, f2, f3, f4, f5, f6, f7⟩ := hJ
        refine wa hk rfl rfl ?_
        refine ev_act hk rfl rfl (e_move hk rfl _) fun a hk => ?_
        have new : Value.slice ad2 [s0].length c2 = Value.slice ad2 [s0].length c2 := rfl
        exact ⟨_, _, _, _, _, _, _, _, hk.sub _ ⟨rfl, rfl, rfl, rfl, rfl, rfl, rfl, rfl, rfl, trivial⟩, hB, hRx, fun h => f0 h, fun h => f1 h, fun _ => new, fun h => f3 h, fun h => f4 h, fun h => f5 h, fun h => f6 h, fun h => f7 h⟩
      · intro _ d a w hr hJ
        obtain ⟨v0, v1, v2, v3, v4, v5, v6, v7, hk, hB, hRx, f0, f1, f2, f3, f4, f5, f6, f7⟩ := hJ
        obtain rfl := f2 (rdy_pre hr 2 (by kernel_rfl))
        refine wa hk rfl rfl ?_
        have ⟨b0, o0, he0, hc0⟩ := Rs.get hRx 0 s0 rfl
        refine ev_act hk rfl rfl (by rw [he0] at hk; exact e_idxS1 0 hk rfl rfl Tryd.underlying27 sz9 rfl (by simp) _) fun a hk => ?_
        have new : ∃ b o, (Value.pointer (some ⟨b0, o0 + 0, none⟩)) = .pointer (some ⟨b, o, none⟩) ∧ w.cell? ⟨b, o, none⟩ = some (Str s0) := ⟨_, _, rfl, hc0⟩
        exact ⟨_, _, _, _, _, _, _, _, hk.sub _ ⟨rfl, rfl, rfl, rfl, rfl, rfl, rfl, rfl, rfl, trivial⟩, hB, hRx, fun h => f0 h, fun h => f1 h, fun h => f2 h, fun _ => new, fun h => f4 h, fun h => f5 h, fun h => f6 h, fun h => f7 h⟩
      · intro _ d a w hr hJ
        obtain ⟨v0, v1, v2, v3, v4, v5, v6, v7, hk, hB, hRx, f0, f1, f2, f3, f4, f5, f6, f7⟩ := hJ
        obtain ⟨b3, o3, rfl, hc3⟩ := f3 (rdy_pre hr 3 (by kernel_rfl))
        refine wa hk rfl rfl ?_
        refine ev_act hk rfl rfl (r_load1 hk rfl Tryd.underlying9 rfl hc3) fun a hk => ?_
        have new : Str s0 = Str s0 := rfl
        have f3 : d 3 = true → ∃ b o, (Value.pointer (some ⟨b3, o3, none⟩)) = .pointer (some ⟨b, o, none⟩) ∧ w.cell? ⟨b, o, none⟩ = some (Str s0) := fun _ => ⟨_, _, rfl, hc3⟩
        exact ⟨_, _, _, _, _, _, _, _, hk.sub _ ⟨rfl, rfl, rfl, rfl, rfl, rfl, rfl, rfl, rfl, trivial⟩, hB, hRx, fun h => f0 h, fun h => f1 h, fun h => f2 h, fun h => f3 h, fun _ => new, fun h => f5 h, fun h => f6 h, fun h => f7 h⟩
      · intro _ d a w hr hJ
        obtain ⟨v0, v1, v2, v3, v4, v5, v6, v7, hk, hB, hRx, f0, f1, f2, f3, f4, f5, f6, f7⟩ := hJ
        obtain rfl := f4 (rdy_pre hr 4 (by kernel_rfl))
        refine wa hk rfl rfl ?_
        refine a_lit (cells := #[Str s0]) (zv := .string ByteArray.empty) (sz := 1) (by_ := 16) hk rfl rfl Tryd.underlying27 el9 (by decide) (by decide) (lit1s _ rfl _) rfl fun a w' bl hk GL => ?_
        have hE := GL.ext
        have new : ∃ b, (Value.slice (some ⟨bl, 0, none⟩) 1 1) = .slice (some ⟨b, 0, none⟩) 1 1 ∧ w'.heap[b]? = some (.cells #[Str s0] 9 (0, 0)) := ⟨_, rfl, GL.at_⟩
        exact ⟨_, _, _, _, _, _, _, _, hk.sub _ ⟨rfl, rfl, rfl, rfl, rfl, rfl, rfl, rfl, rfl, trivial⟩, ext_trans hB hE, Rd.ext hRx hE, fun h => f0 h, fun h => f1 h, fun h => f2 h, fun h => by have f := f3 h; exact by obtain ⟨b, o, e, h⟩ := f; exact ⟨b, o, e, ext_cell hE h⟩, fun h => f4 h, fun _ => new, fun h => f6 h, fun h => f7 h⟩
      · intro _ d a w hr hJ
        obtain ⟨v0, v1, v2, v3, v4, v5, v6, v7, hk, hB, hRx, f0, f1, f2, f3, f4, f5, f6, f7⟩ := hJ
        obtain ⟨bl, rfl, hbl⟩ := f5 (rdy_pre hr 5 (by kernel_rfl))
        refine wa hk rfl rfl ?_
        refine a_call hk rfl rfl (c_fn hk rfl ok35) (c35 1 [s0] _ _ _ (rs_lit1 hbl) (hG.ext hB) (by simp) hL.2) ?_
        rintro e w' ⟨rfl, hE⟩
        refine ⟨_, rfl, fun a hk => ?_⟩
        have new : D (leafS s0) = D (leafS s0) := rfl
        have f5 : d 5 = true → ∃ b, (Value.slice (some ⟨bl, 0, none⟩) 1 1) = .slice (some ⟨b, 0, none⟩) 1 1 ∧ w.heap[b]? = some (.cells #[Str s0] 9 (0, 0)) := fun _ => ⟨_, rfl, hbl⟩
        exact ⟨_, _, _, _, _, _, _, _, hk.sub _ ⟨rfl, rfl, rfl, rfl, rfl, rfl, rfl, rfl, rfl, trivial⟩, ext_trans hB hE, Rd.ext hRx hE, fun h => f0 h, fun h => f1 h, fun h => f2 h, fun h => by have f := f3 h; exact by obtain ⟨b, o, e, h⟩ := f; exact ⟨b, o, e, ext_cell hE h⟩, fun h => f4 h, fun h => by have f := f5 h; exact by obtain ⟨b, e, h⟩ := f; exact ⟨b, e, ext_at hE h⟩, fun _ => new, fun h => f7 h⟩
      · intro _ d a w hr hJ
        obtain ⟨v0, v1, v2, v3, v4, v5, v6, v7, hk, hB, hRx, f0, f1, f2, f3, f4, f5, f6, f7⟩ := hJ
        obtain rfl := f1 (rdy_pre hr 1 (by kernel_rfl))
        obtain rfl := f6 (rdy_pre hr 6 (by kernel_rfl))
        refine wa hk rfl rfl ?_
        refine ev_act hk rfl rfl (e_eqA (l := leafS s0) (r := leafS s0) (b := true) hk rfl rfl Tryd.underlying44 Tryd.underlying5 sz5 (by simp) (by simp) eg44 (decide_eq_true rfl) _) fun a hk => ?_
        have new : Value.bool true = Value.bool true := rfl
        exact ⟨_, _, _, _, _, _, _, _, hk.sub _ ⟨rfl, rfl, rfl, rfl, rfl, rfl, rfl, rfl, rfl, trivial⟩, hB, hRx, fun h => f0 h, fun h => f1 h, fun h => f2 h, fun h => f3 h, fun h => f4 h, fun h => f5 h, fun h => f6 h, fun _ => new⟩
      · intro h; cases h
      · intro h; cases h
      · intro h; cases h
      · intro h; cases h
    · have h1 : 2 ≤ xs.length := by have := of_decide_eq_false hb; omega
      refine wp_skip (hK6 _ _ ?_)
      refine wp_seq_k fun K9 hK9 => ?_
      refine wp_region_lit ?_
      refine ls hk rfl rfl rfl (e_assign hk rfl _) fun a hk => ?_
      refine lnil (hK9 _ _ ?_)
      refine wp_seq_k fun K10 hK10 => ?_
      refine wp_block ?_
      refine loopN (fun n a w => ∃ p : Nat, n = xs.length - p ∧ 0 < p ∧ (∃ j, p = 2 ^ j ∧ (j = 0 ∨ p < xs.length)) ∧ Kn a 64 [(3, .slice ad2 xs.length c2), (4, I p)] ∧ Ext w0 w ∧ Rs w ad2 xs.length c2 xs ∧ ∀ b o, ad2 = some ⟨b, o, none⟩ → b < w.heap.size) (xs.length - 1) ?_ fun n a w hI => ?_
      · exact ⟨1, rfl, by decide, ⟨0, rfl, .inl rfl⟩, hk.sub _ ⟨rfl, rfl, trivial⟩, hB, hRx, hlt⟩
      clear hk hB hRx hlt
      obtain ⟨p, rfl, hp0, ⟨j, hj, hjn⟩, hk, hB, hRx, hlt⟩ := hI
      have hpn : p ≤ xs.length := by
        rcases hjn with h | h
        · rw [h] at hj; simp at hj; omega
        · omega
      refine wp_seq_k fun K11 hK11 => ?_
      refine wp_seq_k fun K12 hK12 => ?_
      refine wp_region_lit ?_
      refine ls hk rfl rfl rfl (e_move hk rfl _) fun a hk => ?_
      refine ls hk rfl rfl rfl (e_mul (q := ((2 * p : Nat) : Int)) hk rfl rfl (by rw [i64 (by omega) (by omega)]; omega) _) fun a hk => ?_
      refine ls hk rfl rfl rfl (e_move hk rfl _) fun a hk => ?_
      refine ls hk rfl rfl rfl (e_lenS hk rfl Tryd.underlying27 _) fun a hk => ?_
      refine ls hk rfl rfl rfl (e_lss hk rfl rfl rfl _) fun a hk => ?_
      refine lnil (hK12 _ _ ?_)
      refine cdB hk rfl (fun hb => ?_) (fun hb => ?_)
      · have hlt2 : 2 * p < xs.length := by have := of_decide_eq_true hb; omega
        refine wp_skip (hK11 _ _ ?_)
        refine wp_block ?_
        refine wp_region_lit ?_
        refine ls hk rfl rfl rfl (e_move hk rfl _) fun a hk => ?_
        refine ls hk rfl rfl rfl (e_mul (q := ((2 * p : Nat) : Int)) hk rfl rfl (by rw [i64 (by omega) (by omega)]; omega) _) fun a hk => ?_
        refine ls hk rfl rfl rfl (e_assign hk rfl _) fun a hk => ?_
        refine lnil (show ∃ m : Nat, m < _ ∧ _ from ⟨xs.length - 2 * p, by omega, 2 * p, rfl, by omega, ⟨j + 1, by rw [Nat.pow_succ, ← hj, Nat.mul_comm], .inr (by omega)⟩, hk.sub _ ⟨rfl, rfl, trivial⟩, hB, hRx, hlt⟩)
      · have hge2 : xs.length ≤ 2 * p := by have := of_decide_eq_false hb; omega
        have hh : hlf xs.length = p := by
          rw [hj]
          refine hlf_is ?_ (by omega)
          rcases hjn with h | h
          · exact .inl h
          · right; omega
        have hroot := rootS_more h1
        rw [hh] at hroot
        have hl1 : (xs.take p).length = p := by simp; omega
        have hl2 : (xs.drop p).length = xs.length - p := by simp
        have hLt : Lv (xs.take p) := ⟨by have := hL.1; omega, fun x hx => hL.2 x (List.mem_of_mem_take hx)⟩
        have hLd : Lv (xs.drop p) := ⟨by have := hL.1; omega, fun x hx => hL.2 x (List.mem_of_mem_drop hx)⟩
        refine wp_exit (hK10 _ _ ?_)
        refine wp_seq_k fun K13 hK13 => ?_
        refine wp_region_ok (fun _ => True) [0, 0, 0, 0, 0, 0, 0, 0, 2, 0, 0, 0, 2, 2, 0, 0, 0, 2, 2, 2, 2, 0, 0, 0, 2, 0, 0] mixed ?_
        have hB := hB.drew
        have hRx := hRx.ext (ext_drew w)
        have hlt := blk_ext hlt (ext_drew w)
        refine d0 0 hk rfl (chkN_ok (by as_aux_lemma => kernel_rfl)) rfl rfl rfl rfl (fun _ => e_move hk rfl _) fun a hk => ?_
        refine d0 1 hk rfl (chkN_ok (by as_aux_lemma => kernel_rfl)) rfl rfl rfl rfl (fun _ => e_move hk rfl _) fun a hk => ?_
        refine d0 2 hk rfl (chkN_ok (by as_aux_lemma => kernel_rfl)) rfl rfl rfl rfl (fun _ => e_lenS hk rfl Tryd.underlying27 _) fun a hk => ?_
        refine d0 3 hk rfl (chkN_ok (by as_aux_lemma => kernel_rfl)) rfl rfl rfl rfl (fun _ => e_move hk rfl _) fun a hk => ?_
        refine d0 4 hk rfl (chkN_ok (by as_aux_lemma => kernel_rfl)) rfl rfl rfl rfl (fun _ => e_sub (q := ((xs.length - p : Nat) : Int)) hk rfl rfl (by rw [i64 (by omega) (by omega)]; omega) _) fun a hk => ?_
        refine d0 5 hk rfl (chkN_ok (by as_aux_lemma => kernel_rfl)) rfl rfl rfl rfl (fun _ => e_geq (b := true) hk rfl rfl (decide_eq_true (by omega)) _) fun a hk => ?_
        refine d0 6 hk rfl (chkN_ok (by as_aux_lemma => kernel_rfl)) rfl rfl rfl rfl (fun _ => e_move hk rfl _) fun a hk => ?_
        refine d0 7 hk rfl (chkN_ok (by as_aux_lemma => kernel_rfl)) rfl rfl rfl rfl (fun _ => e_move hk rfl _) fun a hk => ?_
        refine da 8 hk rfl (chkN_ok (by as_aux_lemma => kernel_rfl)) rfl rfl (a_call hk rfl rfl (c_fn hk rfl ok46) (c46 xs hL ad2 c2 _ hRx (hG.ext hB)) ?_)
        rintro e w ⟨rfl, hE⟩
        refine ⟨_, rfl, fun a hk => ?_⟩
        have hRx := hRx.ext hE
        have hlt := blk_ext hlt hE
        have hB := ext_trans hB hE
        clear hE
        refine d0 9 hk rfl (chkN_ok (by as_aux_lemma => kernel_rfl)) rfl rfl rfl rfl (fun _ => e_move hk rfl _) fun a hk => ?_
        refine d0 10 hk rfl (chkN_ok (by as_aux_lemma => kernel_rfl)) rfl rfl rfl rfl (fun _ => e_move hk rfl _) fun a hk => ?_
        refine d0 11 hk rfl (chkN_ok (by as_aux_lemma => kernel_rfl)) rfl rfl rfl rfl (fun _ => e_slSto hk rfl rfl Tryd.underlying27 sz9 (by omega) (by have := hRx.2.1; omega) _) fun a hk => ?_
        have hRk := sub_to hRx (k := p) (by omega)
        rw [← List.map_take] at hRk
        rw [Int.toNat_natCast] at hk
        generalize (if c2 = 0 then ad2 else ad2.map (·.add 0)) = adk at hk hRk
        have hk := hk.lift 49 (v := .slice adk (xs.take (p)).length c2) (by rw [hl1]; rfl)
        have hRk : Rs w adk (xs.take (p)).length c2 (xs.take (p)) := by rw [hl1]; exact hRk
        refine da 12 hk rfl (chkN_ok (by as_aux_lemma => kernel_rfl)) rfl rfl (a_call hk rfl rfl (c_fn hk rfl ok46) (c46 (xs.take p) hLt adk c2 _ hRk (hG.ext hB)) ?_)
        rintro e w ⟨rfl, hE⟩
        refine ⟨_, rfl, fun a hk => ?_⟩
        have hRx := hRx.ext hE
        have hlt := blk_ext hlt hE
        have hB := ext_trans hB hE
        clear hE
        refine da 13 hk rfl (chkN_ok (by as_aux_lemma => kernel_rfl)) rfl rfl (a_call hk rfl rfl (c_fn hk rfl ok59) (c59 (rootS (xs.take p)) _ (by simp)) ?_)
        rintro e w ⟨rfl, hE⟩
        refine ⟨_, rfl, fun a hk => ?_⟩
        have hRx := hRx.ext hE
        have hlt := blk_ext hlt hE
        have hB := ext_trans hB hE
        clear hE
        refine d0 14 hk rfl (chkN_ok (by as_aux_lemma => kernel_rfl)) rfl rfl rfl rfl (fun _ => e_move hk rfl _) fun a hk => ?_
        refine d0 15 hk rfl (chkN_ok (by as_aux_lemma => kernel_rfl)) rfl rfl rfl rfl (fun _ => e_move hk rfl _) fun a hk => ?_
        refine d0 16 hk rfl (chkN_ok (by as_aux_lemma => kernel_rfl)) rfl rfl rfl rfl (fun _ => e_slSfrom hk rfl rfl Tryd.underlying27 sz9 (by omega) (by omega) _) fun a hk => ?_
        have hRk := sub_from hRx (k := p) (by omega)
        rw [← List.map_drop] at hRk
        rw [Int.toNat_natCast] at hk
        generalize (if c2 = p then ad2 else ad2.map (·.add (p * 1))) = adk at hk hRk
        have hk := hk.lift 54 (v := .slice adk (xs.drop (p)).length (c2 - p)) (by rw [hl2]; rfl)
        have hRk : Rs w adk (xs.drop (p)).length (c2 - p) (xs.drop (p)) := by rw [hl2]; exact hRk
        refine da 17 hk rfl (chkN_ok (by as_aux_lemma => kernel_rfl)) rfl rfl (a_call hk rfl rfl (c_fn hk rfl ok46) (c46 (xs.drop p) hLd adk (c2 - p) _ hRk (hG.ext hB)) ?_)
        rintro e w ⟨rfl, hE⟩
        refine ⟨_, rfl, fun a hk => ?_⟩
        have hRx := hRx.ext hE
        have hlt := blk_ext hlt hE
        have hB := ext_trans hB hE
        clear hE
        refine da 18 hk rfl (chkN_ok (by as_aux_lemma => kernel_rfl)) rfl rfl (a_call hk rfl rfl (c_fn hk rfl ok59) (c59 (rootS (xs.drop p)) _ (by simp)) ?_)
        rintro e w ⟨rfl, hE⟩
        refine ⟨_, rfl, fun a hk => ?_⟩
        have hRx := hRx.ext hE
        have hlt := blk_ext hlt hE
        have hB := ext_trans hB hE
        clear hE
        refine da 19 hk rfl (chkN_ok (by as_aux_lemma => kernel_rfl)) rfl rfl (a_lit (cells := #[Str (rootS (xs.take p)), Str (rootS (xs.drop p))]) (zv := .string ByteArray.empty) (sz := 1) (by_ := 16) hk rfl rfl Tryd.underlying27 el9 (by decide) (by decide) (lit2s _ _ rfl rfl _) rfl fun a w bl hk G => ?_)
        have k_hRx_bl := rd_keep hRx G
        have hg_bl : w0.heap.size ≤ bl := Nat.le_trans hB.size G.ge
        have hRx := hRx.ext G.ext
        have hlt := blk_ext hlt G.ext
        have hB := ext_trans hB G.ext
        have h_bl := G.at_
        clear G
        refine da 20 hk rfl (chkN_ok (by as_aux_lemma => kernel_rfl)) rfl rfl (a_call hk rfl rfl (c_fn hk rfl ok35) (c35 2 [rootS (xs.take p), rootS (xs.drop p)] _ _ _ (rs_lit2 h_bl) (hG.ext hB) (by simp) (by simp)) ?_)
        rintro e w ⟨rfl, hE⟩
        refine ⟨_, rfl, fun a hk => ?_⟩
        have hRx := hRx.ext hE
        have hlt := blk_ext hlt hE
        have h_bl := ext_at hE h_bl
        have hB := ext_trans hB hE
        clear hE
        refine d0 21 hk rfl (chkN_ok (by as_aux_lemma => kernel_rfl)) rfl rfl rfl rfl (fun _ => e_eqA (l := rootS xs) (r := nodeS (rootS (xs.take p)) (rootS (xs.drop p))) (b := true) hk rfl rfl Tryd.underlying44 Tryd.underlying5 sz5 (by simp) (by simp) eg44 (decide_eq_true hroot) _) fun a hk => ?_
        refine d0 22 hk rfl (chkN_ok (by as_aux_lemma => kernel_rfl)) rfl rfl rfl rfl (fun _ => e_pickT hk rfl rfl _) fun a hk => ?_
        refine d0 23 hk rfl (chkN_ok (by as_aux_lemma => kernel_rfl)) rfl rfl rfl rfl (fun _ => e_move hk rfl _) fun a hk => ?_
        refine da 24 hk rfl (chkN_ok (by as_aux_lemma => kernel_rfl)) rfl rfl (a_call hk rfl rfl (c_fn (vs := []) hk rfl ok53) (c53 _ (hG.ext hB)) ?_)
        rintro e w ⟨rfl, hE⟩
        refine ⟨_, rfl, fun a hk => ?_⟩
        have hRx := hRx.ext hE
        have hlt := blk_ext hlt hE
        have h_bl := ext_at hE h_bl
        have hB := ext_trans hB hE
        clear hE
        refine d0 25 hk rfl (chkN_ok (by as_aux_lemma => kernel_rfl)) rfl rfl rfl rfl (fun _ => e_pickT hk rfl rfl _) fun a hk => ?_
        refine d0 26 hk rfl (chkN_ok (by as_aux_lemma => kernel_rfl)) rfl rfl rfl rfl (fun _ => e_assign hk rfl _) fun a hk => ?_
        refine okFin (by as_aux_lemma => kernel_rfl) (hK13 _ _ ?_)
        refine wp_ret ?_
        first
          | exact ret1 hk rfl rfl ⟨rfl, hB⟩
          | (simp only [then_ret]; exact ret1 hk rfl rfl ⟨rfl, hB⟩)

end Go.Proofs.YtidfbboalbchiaaDoor
