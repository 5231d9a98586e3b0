/- Part 6 of the texts that a claim's last texts stand on: A26, App, A27. Conditions: those that each theorem names. -/
import Derived.Test.YtidfbboalbchiaaDoorT5
import Derived.Test.YtidfbboalbchiaaDoorT3
namespace Go.Proofs.YtidfbboalbchiaaDoor
open Go Go.RowKit

theorem dig_enc : ∀ x : List UInt8, x.length = 16 → ((x.map B).toArray).size = 16 ∧ ∀ u ∈ (x.map B).toArray, u.oneCell' = true := fun x hx => ⟨by simp [hx], bytes_oneA _⟩
/-- Leaves are short enough. -/
def Lv (xs : List (List UInt8)) : Prop := xs.length ≤ 1073741824 ∧ ∀ x ∈ xs, x.length ≤ 140737488351232
theorem rs_at {w : World} {ad : Option Addr} {c : Nat} {xs : List (List UInt8)} (h : Rs w ad xs.length c xs) (j : Nat) (hj : j < xs.length) : ∃ b o, ad = some ⟨b, o, none⟩ ∧ w.cell? ⟨b, o + j, none⟩ = some (Str (xs.getD j [])) :=
  Rs.get h j _ (by simp [hj])
theorem lv_at {xs : List (List UInt8)} (h : Lv xs) (j : Nat) (hj : j < xs.length) : (xs.getD j []).length ≤ 140737488351232 := by
  have : xs.getD j [] = xs[j] := by simp [hj]
  rw [this]; exact h.2 _ (List.getElem_mem hj)

set_option maxRecDepth 4000 in
set_option maxHeartbeats 1000000 in
theorem c128 (xs : List (List UInt8)) (hL : Lv xs) (ad : Option Addr) (c bl a₀ b₀ : Nat) (w0 : World) (hR : Rs w0 ad xs.length c xs) (hG : GH w0) (h_bl : w0.heap[bl]? = some (.cells #[.slice ad xs.length c] 27 (0, 0))) (hab : a₀ < b₀) (hb : b₀ ≤ xs.length) :
    Calls Tryd.prog 128 #[I a₀, I b₀, .pointer (some ⟨bl, 0, none⟩)] w0 fun e w' => e = .returned (.tuple #[D (if b₀ - a₀ = 1 then leafS (xs.getD a₀ []) else zD), .bool (decide (b₀ - a₀ = 1))]) ∧ Ext w0 w' := by
  have hL1 := hL.1
  have hle := hb
  clear hb
  refine start 17 Tryd.func128 rfl rfl rfl fun a hk => ?_
  have hB : Ext w0 w0 := Below.refl _ _
  refine wp_seq_k fun K1 hK1 => ?_
  refine wp_region_lit ?_
  refine la hk rfl (a_alloc hk rfl zr44 fun a w b5 hk G => ?_)
  have n_bl_b5 : bl ≠ b5 := G.ne h_bl
  have hg_b5 : w0.heap.size ≤ b5 := Nat.le_trans hB.size G.ge
  have h_bl := ext_at G.ext h_bl
  have hB := ext_trans hB G.ext
  have h_b5 := G.at_
  clear G
  refine ls hk rfl rfl rfl (e_assign hk rfl _) fun a hk => ?_
  refine lnil (hK1 _ _ ?_)
  refine wp_seq_k fun K2 hK2 => ?_
  refine wp_seq_k fun K3 hK3 => ?_
  refine wp_region_lit ?_
  refine ls hk rfl rfl rfl (e_move hk rfl _) fun a hk => ?_
  refine ls hk rfl rfl rfl (e_move hk rfl _) fun a hk => ?_
  refine ls hk rfl rfl rfl (e_sub (q := ((b₀ - a₀ : Nat) : Int)) hk rfl rfl (by rw [i64 (by omega) (by omega)]; omega) _) fun a hk => ?_
  refine ls hk rfl rfl rfl (e_neq hk rfl rfl rfl _) fun a hk => ?_
  refine lnil (hK3 _ _ ?_)
  refine cdB hk rfl (fun hb => ?_) (fun hb => ?_)
  · have h1 : ¬ b₀ - a₀ = 1 := by
      intro h
      rw [h] at hb
      simp at hb
    refine wp_seq_k fun K4 hK4 => ?_
    refine wp_region_lit ?_
    refine ls hk rfl rfl rfl (e_zero44 hk _) fun a hk => ?_
    refine la hk rfl (a_st44 (l := zD) hk rfl rfl rfl h_b5 rfl fun a w hk W => ?_)
    have h_bl := W.keep n_bl_b5 h_bl
    have hB := W.below hB hg_b5
    have h_b5 := W.at_
    clear W
    refine ls hk rfl rfl rfl (e_assign hk rfl _) fun a hk => ?_
    refine lnil (hK4 _ _ ?_)
    refine wp_ret ?_
    simp only [then_ret]
    exact ret44b (l := zD) hk rfl rfl rfl h_b5 rfl ⟨by rw [if_neg h1, decide_eq_false h1], hB⟩
  · have h1 : b₀ - a₀ = 1 := by
      have h : ((b₀ - a₀ : Nat) : Int) = 1 := by simpa using hb
      omega
    refine wp_skip (hK2 _ _ ?_)
    refine wp_seq_k fun K5 hK5 => ?_
    obtain ⟨br, orr, rfl, hcell⟩ := rs_at (Rd.ext hR hB) a₀ (by omega)
    have hll := lv_at hL a₀ (by omega)
    refine wp_region_lit ?_
    refine ls hk rfl rfl rfl (r_ld1 hk rfl Tryd.underlying27 rfl h_bl) fun a hk => ?_
    refine ls hk rfl rfl rfl (e_move hk rfl _) fun a hk => ?_
    refine ls hk rfl rfl rfl (e_idxS1 a₀ hk rfl rfl Tryd.underlying27 sz9 rfl (by omega) _) fun a hk => ?_
    refine ls hk rfl rfl rfl (r_load1 hk rfl Tryd.underlying9 rfl hcell) fun a hk => ?_
    refine la hk rfl (a_call hk rfl rfl (c_fn hk rfl ok108) (c108 (xs.getD a₀ []) _ (hG.ext hB) hll) ?_)
    rintro e w ⟨rfl, hE⟩
    refine ⟨_, rfl, fun a hk => ?_⟩
    have h_bl := ext_at hE h_bl
    have h_b5 := ext_at hE h_b5
    have hB := ext_trans hB hE
    clear hE
    refine la hk rfl (a_st44 (l := leafS (xs.getD a₀ [])) hk rfl rfl (by simp) h_b5 rfl fun a w hk W => ?_)
    have h_bl := W.keep n_bl_b5 h_bl
    have hB := W.below hB hg_b5
    have h_b5 := W.at_
    clear W
    refine ls hk rfl rfl rfl (e_assign hk rfl _) fun a hk => ?_
    refine lnil (hK5 _ _ ?_)
    refine wp_ret ?_
    exact ret44b (l := leafS (xs.getD a₀ [])) hk rfl rfl rfl h_b5 (by simp) ⟨by rw [if_pos h1, decide_eq_true h1], hB⟩

theorem w93 (xs : List (List UInt8)) (hL : Lv xs) (ad : Option Addr) (c bl a₀ b₀ : Nat) (w0 : World) (hR : Rs w0 ad xs.length c xs) (hG : GH w0) (h_bl : w0.heap[bl]? = some (.cells #[.slice ad xs.length c] 27 (0, 0))) (hab : a₀ < b₀) (hb : b₀ ≤ xs.length) :
    Calls Tryd.prog 105 #[I a₀, I b₀, .func (.func 128) #[] #[.pointer (some ⟨bl, 0, none⟩)], .func (.func 109) #[] #[]] w0 fun e w' => e = .returned (D (rootI xs a₀ b₀)) ∧ Ext w0 w' := by
  have hL1 := hL.1
  refine (c105 (S := Unit) (X := List UInt8) (fun x => (x.map B).toArray) (fun x => x.length = 16) dig_enc nodeS (fun _ _ => False) (fun _ w => Ext w0 w) (fun _ _ => True) (fun a b _ x _ => b ≤ xs.length → x = rootI xs a b) (fun _ _ _ => True) w0.heap.size xs.length (by omega) 128 109 [.pointer (some ⟨bl, 0, none⟩)] [] ok128 ok109
    (fun _ w w' h hE => ⟨ext_trans h hE, fun _ h => h⟩) (fun _ w w' b o h hb _ hW => ⟨hW.below h hb, fun _ h => h⟩) (fun _ _ _ _ h => h.elim) (fun _ _ _ h _ _ => h) (fun _ _ _ _ _ h _ _ _ => h)
    (fun a b s w hab hbl _ hJ _ => (c128 xs hL ad c bl a b w (Rd.ext hR hJ) (hG.ext hJ) (ext_at hJ h_bl) hab hbl).mono fun e w' ⟨he, hE⟩ => ⟨_, _, (), he, ?_, ext_trans hJ hE, Fra.ext hE (fun _ h => h), fun h1 _ => ?_, fun h1 => ⟨rfl, ?_, trivial⟩⟩)
    (fun x y s w hx hy hJ _ => (c109 x y w (hG.ext hJ) hx hy).mono fun e w' ⟨he, hE⟩ => ⟨he, length_nodeS _ _, ext_trans hJ hE, Fra.ext hE (fun _ h => h)⟩)
    (fun a b s x s1 y s2 _ h2 hx hy hb => ?_) _ a₀ b₀ () w0 rfl hab hb trivial (Below.refl _ _) (Nat.le_refl _)).mono fun e w' ⟨x, _, he, _, hJ, _, hx⟩ => ⟨by rw [he, hx hb], hJ⟩
  · show (if _ then _ else _ : List UInt8).length = 16
    split <;> simp
  · have h1 := of_decide_eq_true h1
    rw [if_pos h1, show b = a + 1 by omega, rootI_one xs a (by omega)]
  · have := of_decide_eq_false h1; omega
  · have := hlf_lt h2
    rw [rootI_more xs a b h2 hb, hx (by omega), hy hb]

set_option maxRecDepth 4000 in
set_option maxHeartbeats 1000000 in
theorem c93 (xs : List (List UInt8)) (hL : Lv xs) (ad : Option Addr) (c a₀ b₀ : Nat) (w0 : World) (hR : Rs w0 ad xs.length c xs) (hG : GH w0) (hab : a₀ < b₀) (hle : b₀ ≤ xs.length) :
    Calls Tryd.prog 93 #[.slice ad xs.length c, I a₀, I b₀] w0 fun e w' => e = .returned (D (rootI xs a₀ b₀)) ∧ Ext w0 w' := by
  refine start 11 Tryd.func93 rfl rfl rfl fun a hk => ?_
  have hB : Ext w0 w0 := Below.refl _ _
  refine wp_seq_k fun K1 hK1 => ?_
  refine wp_region_lit ?_
  refine la hk rfl (a_box hk rfl rfl fun a w b3 hk G => ?_)
  have hg_b3 : w0.heap.size ≤ b3 := Nat.le_trans hB.size G.ge
  have hB := ext_trans hB G.ext
  have h_b3 := G.at_
  clear G
  refine la hk rfl (a_alloc hk rfl zr44 fun a w b6 hk G => ?_)
  have n_b3_b6 : b3 ≠ b6 := G.ne h_b3
  have hg_b6 : w0.heap.size ≤ b6 := Nat.le_trans hB.size G.ge
  have h_b3 := ext_at G.ext h_b3
  have hB := ext_trans hB G.ext
  have h_b6 := G.at_
  clear G
  refine lnil (hK1 _ _ ?_)
  refine wp_seq_k fun K2 hK2 => ?_
  refine wp_region_lit ?_
  refine ls hk rfl rfl rfl (e_move hk rfl _) fun a hk => ?_
  refine ls hk rfl rfl rfl (e_move hk rfl _) fun a hk => ?_
  refine ls hk rfl rfl rfl (e_func hk rfl rfl _) fun a hk => ?_
  refine la hk rfl (a_call hk rfl rfl (c_fn hk rfl ok105) (w93 xs hL ad c b3 a₀ b₀ _ (Rd.ext hR hB) (hG.ext hB) h_b3 hab hle) ?_)
  rintro e w ⟨rfl, hE⟩
  refine ⟨_, rfl, fun a hk => ?_⟩
  have h_b3 := ext_at hE h_b3
  have h_b6 := ext_at hE h_b6
  have hB := ext_trans hB hE
  clear hE
  refine la hk rfl (a_st44 (l := rootI xs a₀ b₀) hk rfl rfl (by simp) h_b6 rfl fun a w hk W => ?_)
  have h_b3 := W.keep n_b3_b6 h_b3
  have hB := W.below hB hg_b6
  have h_b6 := W.at_
  clear W
  refine lnil (hK2 _ _ ?_)
  refine wp_ret ?_
  exact ret44 (l := rootI xs a₀ b₀) hk rfl rfl h_b6 (by simp) ⟨rfl, hB⟩

set_option maxRecDepth 4000 in
set_option maxHeartbeats 1000000 in
theorem c46 (xs : List (List UInt8)) (hL : Lv xs) (ad : Option Addr) (c : Nat) (w0 : World) (hR : Rs w0 ad xs.length c xs) (hG : GH w0) :
    Calls Tryd.prog 46 #[.slice ad xs.length c] w0 fun e w' => e = .returned (D (rootS xs)) ∧ Ext w0 w' := by
  refine start 11 Tryd.func46 rfl rfl rfl fun a hk => ?_
  have hB : Ext w0 w0 := Below.refl _ _
  refine wp_seq_k fun K1 hK1 => ?_
  refine wp_region_lit ?_
  refine la hk rfl (a_alloc hk rfl zr44 fun a w b2 hk G => ?_)
  have hg_b2 : w0.heap.size ≤ b2 := Nat.le_trans hB.size G.ge
  have hB := ext_trans hB G.ext
  have h_b2 := G.at_
  clear G
  refine lnil (hK1 _ _ ?_)
  refine wp_seq_k fun K2 hK2 => ?_
  refine wp_seq_k fun K3 hK3 => ?_
  refine wp_region_lit ?_
  refine ls hk rfl rfl rfl (e_move hk rfl _) fun a hk => ?_
  refine ls hk rfl rfl rfl (e_lenS hk rfl Tryd.underlying27 _) fun a hk => ?_
  refine ls hk rfl rfl rfl (e_eql hk rfl rfl rfl _) fun a hk => ?_
  refine lnil (hK3 _ _ ?_)
  refine cdB hk rfl (fun hb => ?_) (fun hb => ?_)
  · have h0 : xs.length = 0 := by have := of_decide_eq_true hb; omega
    refine wp_seq_k fun K4 hK4 => ?_
    refine wp_region_lit ?_
    refine la hk rfl (a_call hk rfl rfl (c_fn hk rfl ok35) (c35 2 [] none 0 _ rd_none (hG.ext hB) (by decide) (by simp)) ?_)
    rintro e w ⟨rfl, hE⟩
    refine ⟨_, rfl, fun a hk => ?_⟩
    have h_b2 := ext_at hE h_b2
    have hB := ext_trans hB hE
    clear hE
    refine la hk rfl (a_st44 (l := ofD 2 []) hk rfl rfl (by simp) h_b2 rfl fun a w hk W => ?_)
    have hB := W.below hB hg_b2
    have h_b2 := W.at_
    clear W
    refine lnil (hK4 _ _ ?_)
    refine wp_ret ?_
    simp only [then_ret]
    obtain rfl := List.length_eq_zero_iff.1 h0
    exact ret44 (l := ofD 2 []) hk rfl rfl h_b2 (by simp) ⟨by rw [rootS_nil], hB⟩
  · have h0 : ¬ xs.length = 0 := by have := of_decide_eq_false hb; omega
    refine wp_skip (hK2 _ _ ?_)
    refine wp_seq_k fun K5 hK5 => ?_
    refine wp_region_lit ?_
    refine ls hk rfl rfl rfl (e_move hk rfl _) fun a hk => ?_
    refine ls hk rfl rfl rfl (e_move hk rfl _) fun a hk => ?_
    refine ls hk rfl rfl rfl (e_lenS hk rfl Tryd.underlying27 _) fun a hk => ?_
    refine la hk rfl (a_call hk rfl rfl (c_fn hk rfl ok93) (c93 xs hL ad c 0 xs.length _ (Rd.ext hR hB) (hG.ext hB) (by omega) (Nat.le_refl _)) ?_)
    rintro e w ⟨rfl, hE⟩
    refine ⟨_, rfl, fun a hk => ?_⟩
    have h_b2 := ext_at hE h_b2
    have hB := ext_trans hB hE
    clear hE
    refine la hk rfl (a_st44 (l := rootI xs 0 xs.length) hk rfl rfl (by simp) h_b2 rfl fun a w hk W => ?_)
    have hB := W.below hB hg_b2
    have h_b2 := W.at_
    clear W
    refine lnil (hK5 _ _ ?_)
    refine wp_ret ?_
    exact ret44 (l := rootI xs 0 xs.length) hk rfl rfl h_b2 (by simp) ⟨by rw [rootI, cut_all], hB⟩

set_option maxRecDepth 4000 in
set_option maxHeartbeats 1000000 in
theorem c47 : ∀ n (xs : List (List UInt8)) (ad : Option Addr) (c : Nat) (w0 : World), xs.length = n → Lv xs → Rs w0 ad xs.length c xs → GR w0 →
    Calls Tryd.prog 47 #[.slice ad xs.length c] w0 fun e w' => e = .returned (D (rootS xs)) ∧ Ext w0 w' := by
  intro n
  induction n using Nat.strongRecOn with
  | _ n ih =>
  intro xs ad c w0 hn hL hR hG
  refine start 27 Tryd.func47 rfl rfl rfl fun a hk => ?_
  have hB : Ext w0 w0 := Below.refl _ _
  refine wp_seq_k fun K1 hK1 => ?_
  refine wp_region_lit ?_
  refine la hk rfl (a_alloc hk rfl zr44 fun a w b2 hk G => ?_)
  have hg_b2 : w0.heap.size ≤ b2 := Nat.le_trans hB.size G.ge
  have hB := ext_trans hB G.ext
  have h_b2 := G.at_
  clear G
  refine lnil (hK1 _ _ ?_)
  refine wp_seq_k fun K2 hK2 => ?_
  refine wp_seq_k fun K3 hK3 => ?_
  refine wp_region_lit ?_
  refine ls hk rfl rfl rfl (e_move hk rfl _) fun a hk => ?_
  refine ls hk rfl rfl rfl (e_lenS hk rfl Tryd.underlying27 _) fun a hk => ?_
  refine ls hk rfl rfl rfl (e_eql hk rfl rfl rfl _) fun a hk => ?_
  refine lnil (hK3 _ _ ?_)
  refine cdB hk rfl (fun hb => ?_) (fun hb => ?_)
  · have h0 : xs.length = 0 := by have := of_decide_eq_true hb; omega
    refine wp_seq_k fun K4 hK4 => ?_
    refine wp_region_lit ?_
    refine la hk rfl (a_call hk rfl rfl (c_fn hk rfl ok36) (c36 2 [] none 0 _ rd_none (hG.ext hB) (by decide) (by simp) (by simp)) ?_)
    rintro e w ⟨rfl, hE⟩
    refine ⟨_, rfl, fun a hk => ?_⟩
    have h_b2 := ext_at hE h_b2
    have hB := ext_trans hB hE
    clear hE
    refine la hk rfl (a_st44 (l := ofD 2 []) hk rfl rfl (by simp) h_b2 rfl fun a w hk W => ?_)
    have hB := W.below hB hg_b2
    have h_b2 := W.at_
    clear W
    refine lnil (hK4 _ _ ?_)
    refine wp_ret ?_
    simp only [then_ret]
    obtain rfl := List.length_eq_zero_iff.1 h0
    exact ret44 (l := ofD 2 []) hk rfl rfl h_b2 (by simp) ⟨by rw [rootS_nil], hB⟩
  · have h0 : ¬ xs.length = 0 := by have := of_decide_eq_false hb; omega
    refine wp_skip (hK2 _ _ ?_)
    refine wp_seq_k fun K5 hK5 => ?_
    refine wp_seq_k fun K6 hK6 => ?_
    refine wp_region_lit ?_
    refine ls hk rfl rfl rfl (e_move hk rfl _) fun a hk => ?_
    refine ls hk rfl rfl rfl (e_lenS hk rfl Tryd.underlying27 _) fun a hk => ?_
    refine ls hk rfl rfl rfl (e_eql hk rfl rfl rfl _) fun a hk => ?_
    refine lnil (hK6 _ _ ?_)
    refine cdB hk rfl (fun hb => ?_) (fun hb => ?_)
    · have h1 : xs.length = 1 := by have := of_decide_eq_true hb; omega
      obtain ⟨br, orr, rfl, hcell⟩ := rs_at (Rd.ext hR hB) 0 (by omega)
      have hll := lv_at hL 0 (by omega)
      have hs1 : rootS xs = leafS (xs.getD 0 []) := by rw [rootS, dif_neg h0, dif_pos h1]
      refine wp_seq_k fun K7 hK7 => ?_
      refine wp_region_lit ?_
      refine ls hk rfl rfl rfl (e_move hk rfl _) fun a hk => ?_
      refine ls hk rfl rfl rfl (e_idxS1 0 hk rfl rfl Tryd.underlying27 sz9 rfl (by omega) _) fun a hk => ?_
      refine ls hk rfl rfl rfl (r_load1 hk rfl Tryd.underlying9 rfl hcell) fun a hk => ?_
      refine la hk rfl (a_call hk rfl rfl (c_fn hk rfl ok94) (c94 (xs.getD 0 []) _ (hG.ext hB) hll) ?_)
      rintro e w ⟨rfl, hE⟩
      refine ⟨_, rfl, fun a hk => ?_⟩
      have h_b2 := ext_at hE h_b2
      have hB := ext_trans hB hE
      clear hE
      refine la hk rfl (a_st44 (l := leafS (xs.getD 0 [])) hk rfl rfl (by simp) h_b2 rfl fun a w hk W => ?_)
      have hB := W.below hB hg_b2
      have h_b2 := W.at_
      clear W
      refine lnil (hK7 _ _ ?_)
      refine wp_ret ?_
      simp only [then_ret]
      exact ret44 (l := leafS (xs.getD 0 [])) hk rfl rfl h_b2 (by simp) ⟨by rw [hs1], hB⟩
    · have h1 : 2 ≤ xs.length := by have := of_decide_eq_false hb; omega
      have hL1 := hL.1
      have hhp := hlf_pos xs.length
      have hhl := hlf_lt h1
      have hl1 : (xs.take (hlf xs.length)).length = hlf xs.length := by simp; omega
      have hl2 : (xs.drop (hlf xs.length)).length = xs.length - hlf xs.length := by simp
      have hLt : Lv (xs.take (hlf xs.length)) := ⟨by omega, fun x hx => hL.2 x (List.mem_of_mem_take hx)⟩
      have hLd : Lv (xs.drop (hlf xs.length)) := ⟨by omega, fun x hx => hL.2 x (List.mem_of_mem_drop hx)⟩
      refine wp_skip (hK5 _ _ ?_)
      refine wp_seq_k fun K8 hK8 => ?_
      refine wp_region_lit ?_
      refine ls hk rfl rfl rfl (e_move hk rfl _) fun a hk => ?_
      refine ls hk rfl rfl rfl (e_lenS hk rfl Tryd.underlying27 _) fun a hk => ?_
      refine la hk rfl (a_call hk rfl rfl (c_fn hk rfl ok95) (c95 xs.length _ (by omega)) ?_)
      rintro e w ⟨rfl, hE⟩
      refine ⟨_, rfl, fun a hk => ?_⟩
      have h_b2 := ext_at hE h_b2
      have hB := ext_trans hB hE
      clear hE
      refine ls hk rfl rfl rfl (e_assign hk rfl _) fun a hk => ?_
      refine lnil (hK8 _ _ ?_)
      refine wp_seq_k fun K9 hK9 => ?_
      refine wp_region_ok (fun _ => True) [0, 0, 0, 2, 0, 0, 0, 2, 2, 2] mixed ?_
      have hB := hB.drew
      have h_b2 := ext_at (ext_drew w) h_b2
      refine d0 0 hk rfl (by kernel_rfl) rfl rfl rfl rfl (fun _ => e_move hk rfl _) fun a hk => ?_
      refine d0 1 hk rfl (by kernel_rfl) rfl rfl rfl rfl (fun _ => e_move hk rfl _) fun a hk => ?_
      refine d0 2 hk rfl (by kernel_rfl) rfl rfl rfl rfl (fun _ => e_slSto hk rfl rfl Tryd.underlying27 sz9 (by omega) (by have := hR.2.1; omega) _) fun a hk => ?_
      have hRk := sub_to (Rd.ext hR hB) (k := hlf xs.length) (by omega)
      rw [← List.map_take] at hRk
      rw [Int.toNat_natCast] at hk
      generalize (if c = 0 then ad else ad.map (·.add 0)) = adk at hk hRk
      have hk := hk.lift 20 (v := .slice adk (xs.take (hlf xs.length)).length c) (by rw [hl1]; rfl)
      have hRk : Rs w adk (xs.take (hlf xs.length)).length c (xs.take (hlf xs.length)) := by rw [hl1]; exact hRk
      refine da 3 hk rfl (by kernel_rfl) rfl rfl (a_call hk rfl rfl (c_fn hk rfl ok47) (ih _ (by omega) (xs.take (hlf xs.length)) adk c _ rfl hLt hRk (hG.ext hB)) ?_)
      rintro e w ⟨rfl, hE⟩
      refine ⟨_, rfl, fun a hk => ?_⟩
      have h_b2 := ext_at hE h_b2
      have hB := ext_trans hB hE
      clear hE
      refine d0 4 hk rfl (by kernel_rfl) rfl rfl rfl rfl (fun _ => e_move hk rfl _) fun a hk => ?_
      refine d0 5 hk rfl (by kernel_rfl) rfl rfl rfl rfl (fun _ => e_move hk rfl _) fun a hk => ?_
      refine d0 6 hk rfl (by kernel_rfl) rfl rfl rfl rfl (fun _ => e_slSfrom hk rfl rfl Tryd.underlying27 sz9 (by omega) (by omega) _) fun a hk => ?_
      have hRk := sub_from (Rd.ext hR hB) (k := hlf xs.length) (by omega)
      rw [← List.map_drop] at hRk
      rw [Int.toNat_natCast] at hk
      generalize (if c = hlf xs.length then ad else ad.map (·.add (hlf xs.length * 1))) = adk at hk hRk
      have hk := hk.lift 24 (v := .slice adk (xs.drop (hlf xs.length)).length (c - hlf xs.length)) (by rw [hl2]; rfl)
      have hRk : Rs w adk (xs.drop (hlf xs.length)).length (c - hlf xs.length) (xs.drop (hlf xs.length)) := by rw [hl2]; exact hRk
      refine da 7 hk rfl (by kernel_rfl) rfl rfl (a_call hk rfl rfl (c_fn hk rfl ok47) (ih _ (by omega) (xs.drop (hlf xs.length)) adk (c - hlf xs.length) _ rfl hLd hRk (hG.ext hB)) ?_)
      rintro e w ⟨rfl, hE⟩
      refine ⟨_, rfl, fun a hk => ?_⟩
      have h_b2 := ext_at hE h_b2
      have hB := ext_trans hB hE
      clear hE
      refine da 8 hk rfl (by kernel_rfl) rfl rfl (a_call hk rfl rfl (c_fn hk rfl ok96) (c96 _ _ _ (hG.ext hB) (length_rootS _) (length_rootS _)) ?_)
      rintro e w ⟨rfl, hE⟩
      refine ⟨_, rfl, fun a hk => ?_⟩
      have h_b2 := ext_at hE h_b2
      have hB := ext_trans hB hE
      clear hE
      refine da 9 hk rfl (by kernel_rfl) rfl rfl (a_st44 (l := nodeS (rootS (xs.take (hlf xs.length))) (rootS (xs.drop (hlf xs.length)))) hk rfl rfl (by simp) h_b2 rfl fun a w hk W => ?_)
      have hB := W.below hB hg_b2
      have h_b2 := W.at_
      clear W
      refine okFin (by kernel_rfl) (hK9 _ _ ?_)
      refine wp_ret ?_
      exact ret44 (l := nodeS (rootS (xs.take (hlf xs.length))) (rootS (xs.drop (hlf xs.length)))) hk rfl rfl h_b2 (by simp) ⟨by rw [rootS_more h1], hB⟩

end Go.Proofs.YtidfbboalbchiaaDoor

namespace Go.Proofs.YtidfbboalbchiaaDoor
open Go Go.RowKit
section
variable {P : Program} {a : Act} {w : World} {N d : Nat} {L : Fm} {ty : TypeId} {pos : String} {af : Array Edge} {g : Option (Nat × Bool)} {v : Value} {x y z : Operand} {t t' e : TypeId} {K : Act → World → Prop} {dst : Option Tmp}
/-- append(s, x...) onto a slice that is nil or the call's own; where the row lies afterwards. -/
theorem a_app2 {base m c n sz by_ : Nat} {zv : Value} {xs news : List Value} {p : Addr} (hk : Kn a N L) (hN : Nat.blt d N = true) (hx : ov L x = some v) (hown : w.ownsRow base e sz v n xs) (hy : ov L y = some (.slice (some p) m c)) (hR : Rd w (some p) m c sz news) (h1 : ∀ u ∈ news, u.oneCell' = true)
    (ht : P.underlying t = some (.slice e)) (hz : El P e zv sz by_) (hzs : zv.cells.size = sz) (hsz : 0 < sz) (hm : (n + m) * by_ ≤ 140737488355328) (hm2 : n + m ≤ 140737488355328) (hm0 : 0 < m) (hb : base ≤ w.heap.size)
    (hK : ∀ a' w' v', Kn a' N ((d, v') :: L) → w'.ownsRow base e sz v' (n + m) (xs ++ news) → Kept w w' v → (∀ k, v'.ownBlock = some k → v.ownBlock = some k ∨ w.heap.size ≤ k) → K a' w') : acts P ⟨some d, .call { callee := .builtin .append, args := #[x, y], argTypes := #[t, t] }, ty, pos, af, g⟩ K a w := by
  unfold El at hz
  obtain ⟨inf, hq, hz1, hz2, hz3⟩ := info_parts hz
  have hcell : ∀ j u, news[j]? = some u → w.cell? (p.add j) = some u := fun j u hu => by
    obtain ⟨b, o, h1, h2⟩ := hR.2.2 j u hu
    cases h1
    rw [Addr.add_lit]; exact h2
  have h63 : n + m ≤ maxLen := by unfold maxLen; omega
  obtain ⟨v', w', hrun, ho, hg, _⟩ := run_append_own (P := P) w base t ty e inf zv sz by_ ht hq hz1 hz2 hz3 hzs hsz v n xs hown p m c news hR.1 hcell h1 h63 hm hb
  refine act_v hk rfl hN (v := v') (w' := w') (by simp [execOp, hk.op hx, hk.op hy, resolve, invoke, builtin, hrun]) fun a' hk' => hK a' w' v' hk' ho hg ?_
  subst hz2 hz3
  rcases hown.2 with ⟨rfl, rfl⟩ | ⟨gb, cap, cur, rfl, hbg, hgg, hnc, hcm, hcs, htake⟩
  · have hr := run_append_nil (P := P) w t ty e inf zv ht hq hz1 p m c news hR.1 hcell (by omega) (by unfold maxLen at h63; omega) (by simp only [Nat.zero_add] at hm; omega)
    rw [hrun] at hr
    cases hr
    intro k hk
    simp [Value.ownBlock] at hk
    exact .inr (by omega)
  · by_cases hroom : n + m ≤ cap
    · have hfit : n * inf.size + news.length ≤ cur.size := by rw [hR.1, hcs, ← Nat.add_mul]; exact Nat.mul_le_mul_right _ hroom
      have hr := run_append_room (P := P) w t ty e inf ht hq gb n cap cur hgg p m c news hR.1 hcell h1 hroom hfit
      rw [hrun] at hr
      cases hr
      intro k hk
      exact .inl (by simpa [Value.ownBlock] using hk)
    · have holds : ∀ j u, xs[j]? = some u → w.cell? ((⟨gb, 0, none⟩ : Addr).add j) = some u := hown.cells (g := gb) rfl
      have hr := run_append_grow (P := P) w t ty e inf zv ht hq hz1 ⟨gb, 0, none⟩ n cap xs hown.1 holds p m c news hR.1 hcell (by omega) (by unfold maxLen at h63; omega) (growslice_fits (by omega) hm)
      rw [hrun] at hr
      cases hr
      intro k hk
      simp [Value.ownBlock] at hk
      exact .inr (by omega)
end
/-- The cells of a list of digests. -/
def digs16 (s : List (List UInt8)) : List Value := (s.map fun d => d.map B).flatten
theorem digs16_snoc (s : List (List UInt8)) (d : List UInt8) : digs16 (s ++ [d]) = digs16 s ++ d.map B := by simp [digs16]
theorem length_digs16 : ∀ (s : List (List UInt8)), (∀ d ∈ s, d.length = 16) → (digs16 s).length = s.length * 16 := by
  intro s
  induction s with
  | nil => intro _; rfl
  | cons d r ih =>
    intro h
    have h1 := ih fun x hx => h x (List.mem_cons_of_mem _ hx)
    have h2 := h d (List.mem_cons_self ..)
    simp only [digs16, List.map_cons, List.flatten_cons, List.length_append, List.length_map, List.length_cons] at h1 ⊢
    omega
/-- A row of digests, read. -/
def Rdg (w : World) (ad : Option Addr) (n c : Nat) (s : List (List UInt8)) : Prop := Rd w ad n c 16 (digs16 s) ∧ ∀ d ∈ s, d.length = 16
theorem digs16_get : ∀ (s : List (List UInt8)), (∀ d ∈ s, d.length = 16) → ∀ i j, i < s.length → j < 16 → (digs16 s)[i * 16 + j]? = some (B ((s.getD i []).getD j 0)) := by
  intro s
  induction s with
  | nil => intro _ i j h; simp at h
  | cons d r ih =>
    intro h i j hi hj
    have h2 := h d (List.mem_cons_self ..)
    have e : digs16 (d :: r) = d.map B ++ digs16 r := by simp [digs16]
    rw [e]
    cases i with
    | zero => rw [List.getElem?_append_left (by simp; omega)]; simp [h2, hj]
    | succ i =>
      have h1 := ih (fun x hx => h x (List.mem_cons_of_mem _ hx)) i j (by simp at hi; omega) hj
      rw [List.getElem?_append_right (by simp; omega), List.length_map, h2, show (i + 1) * 16 + j - 16 = i * 16 + j by omega, h1]
      simp
theorem Rdg.len {w : World} {ad : Option Addr} {n c : Nat} {s : List (List UInt8)} (h : Rdg w ad n c s) : s.length = n := by
  have h1 := h.1.1
  rw [length_digs16 s h.2] at h1; omega
theorem Rdg.ext {w w' : World} {ad : Option Addr} {n c : Nat} {s : List (List UInt8)} (h : Rdg w ad n c s) (hE : Ext w w') : Rdg w' ad n c s := ⟨h.1.ext hE, h.2⟩
/-- The i-th digest's cells. -/
theorem Rdg.get {w : World} {ad : Option Addr} {n c : Nat} {s : List (List UInt8)} (h : Rdg w ad n c s) (i : Nat) (hi : i < n) : ∃ b o, ad = some ⟨b, o, none⟩ ∧ w.rangeAt b (o + i * 16) ((s.getD i []).map B) ∧ (s.getD i []).length = 16 := by
  have hl := h.len
  have hd : (s.getD i []).length = 16 := by
    have : s.getD i [] = s[i]'(by omega) := by simp [show i < s.length by omega]
    rw [this]; exact h.2 _ (List.getElem_mem _)
  obtain ⟨b, o, e, _⟩ := h.1.2.2 (i * 16 + 0) _ (digs16_get s h.2 i 0 (by omega) (by decide))
  refine ⟨b, o, e, fun j u hu => ?_, hd⟩
  have hg := fun hj => digs16_get s h.2 i j (by omega) hj
  generalize s.getD i [] = q at hd hu hg
  have hj : j < 16 := by
    have := (List.getElem?_eq_some_iff.1 hu).1
    simp only [List.length_map] at this
    omega
  have hu2 : u = B (q.getD j 0) := by
    rw [List.getElem?_map, List.getElem?_eq_getElem (by omega)] at hu
    simp only [Option.map_some, Option.some.injEq] at hu
    rw [← hu, List.getD_eq_getElem?_getD, List.getElem?_eq_getElem (by omega)]; rfl
  obtain ⟨b', o', e', hc⟩ := h.1.2.2 (i * 16 + j) _ (hg hj)
  rw [e] at e'
  cases e'
  rw [hu2, Nat.add_assoc]
  exact hc
theorem rdg_nil {w : World} {c : Nat} : Rdg w none 0 c [] := ⟨rd_none, by simp⟩
theorem rdg_own {w : World} {base : Nat} {v : Value} {s : List (List UInt8)} (h : w.ownsRow base 44 16 v s.length (digs16 s)) (hs : ∀ d ∈ s, d.length = 16) : ∃ ad c, v = .slice ad s.length c ∧ Rdg w ad s.length c s := by
  obtain ⟨ad, c, e, _, hR⟩ := Rd.of_own h
  exact ⟨ad, c, e, hR, hs⟩
theorem ones16 {s : List (List UInt8)} : ∀ u ∈ digs16 s, u.oneCell' = true := by
  intro u hu
  simp only [digs16, List.mem_flatten, List.mem_map] at hu
  obtain ⟨l, ⟨d, _, rfl⟩, hu⟩ := hu
  exact bytes_one d u hu
theorem fold_set (off : Nat) : ∀ (l : List Value) (k : Nat) (cs : Array Value), off + k + l.length ≤ cs.size → (l.zipIdx k).foldl (fun cs p => cs.setIfInBounds (off + p.2) p.1) cs = (cs.toList.take (off + k) ++ l ++ cs.toList.drop (off + k + l.length)).toArray := by
  intro l
  induction l with
  | nil => intro k cs _; simp
  | cons x r ih =>
    intro k cs h
    simp only [List.length_cons] at h
    rw [List.zipIdx_cons, List.foldl_cons, ih (k + 1) _ (by simp; omega)]
    have e : (cs.setIfInBounds (off + k) x).toList = cs.toList.set (off + k) x := by simp
    have h1 : off + k < cs.toList.length := by simp; omega
    simp only [e, List.length_cons]
    rw [show off + (k + 1) = off + k + 1 by omega, List.drop_set_of_lt (by omega), List.take_add_one, List.take_set_of_le (Nat.le_refl _), List.getElem?_set_self h1]
    rw [show off + k + 1 + r.length = off + k + (r.length + 1) by omega]
    simp
/-- One part of a literal or of a struct. -/
theorem fill_part (place : Nat → Option (Nat × Nat)) (cs : Array Value) (i : Nat) (v : Value) (l : List Value) (off size : Nat) (rest : List (Nat × Value)) (hp : place i = some (off, size)) (hv : v.cells = l.toArray) (hl : l.length = size) (hb : off + size ≤ cs.size) :
    Instr.fill place cs ((i, v) :: rest) = Instr.fill place (cs.toList.take off ++ l ++ cs.toList.drop (off + size)).toArray rest := by
  subst hl
  have hf := fold_set off l 0 cs (by simpa using hb)
  have hz : (v.cells.zipIdx.foldl (fun cs (c, j) => cs.setIfInBounds (off + j) c) cs) = (cs.toList.take off ++ l ++ cs.toList.drop (off + l.length)).toArray := by
    rw [hv, show l.toArray.zipIdx = (l.zipIdx).toArray by simp, List.foldl_toArray]
    simpa using hf
  rw [Instr.fill, hp]
  simp only
  rw [if_neg (by rw [hv]; simp; omega), hz]
/-- A literal of one digest. -/
theorem lit44 (z : Value) (_hz : z.cells.size = 16) (d : List UInt8) (hd : d.length = 16) : Instr.fill (fun i => some (i * 16, 16)) ((Array.range (1 * 16)).map (z.cells[· % z.cells.size]!)) [(0, D d)] = some (d.map B).toArray := by
  rw [fill_part _ _ 0 (D d) (d.map B) 0 16 [] rfl rfl (by simp [hd]) (by simp)]
  rw [Instr.fill, List.drop_of_length_le (by simp)]
  simp
end Go.Proofs.YtidfbboalbchiaaDoor

namespace Go.Proofs.YtidfbboalbchiaaDoor
open Go Go.RowKit

/-- A variable in which digests are gathered: a slice in it grows, nothing else of what was there changes. -/
structure Col (bp : Nat) (wB : World) (mk : Value → Array Value) (tb : TypeId) (s : List (List UInt8)) (w : World) : Prop where
  os : w.os = wB.os
  tape : w.tape = wB.tape
  output : w.output = wB.output
  size : wB.heap.size ≤ w.heap.size
  other : ∀ k, k < wB.heap.size → k ≠ bp → w.heap[k]? = wB.heap[k]?
  lt : bp < wB.heap.size
  cell : ∃ v, w.heap[bp]? = some (.cells (mk v) tb (0, 0)) ∧ w.ownsRow wB.heap.size 44 16 v s.length (digs16 s)
  len : ∀ d ∈ s, d.length = 16
def MutC (bp : Nat) (mk : Value → Array Value) (tb : TypeId) (w : World) (k : Nat) : Prop := k = bp ∨ ∃ v, w.heap[bp]? = some (.cells (mk v) tb (0, 0)) ∧ v.ownBlock = some k
section
variable {bp : Nat} {wB w w' w1 w2 : World} {mk : Value → Array Value} {tb : TypeId} {s : List (List UInt8)} {v : Value}
theorem Col.same (h : w'.heap[bp]? = w.heap[bp]?) : ∀ k, MutC bp mk tb w' k → MutC bp mk tb w k := fun k hk => by
  rcases hk with h1 | ⟨v, h1, h2⟩
  · exact .inl h1
  · rw [h] at h1; exact .inr ⟨v, h1, h2⟩
theorem Col.lt' (h : Col bp wB mk tb s w) : bp < w.heap.size := Nat.lt_of_lt_of_le h.lt h.size
theorem Col.ext (h : Col bp wB mk tb s w) (hE : Ext w w') : Col bp wB mk tb s w' ∧ ∀ k, MutC bp mk tb w' k → MutC bp mk tb w k := by
  refine ⟨⟨hE.os.trans h.os, hE.tape.trans h.tape, hE.output.trans h.output, Nat.le_trans h.size hE.size, fun k hk hne => (hE.block k (Nat.lt_of_lt_of_le hk h.size)).trans (h.other k hk hne), h.lt, ?_, h.len⟩, Col.same (hE.block bp h.lt')⟩
  obtain ⟨v, h1, h2⟩ := h.cell
  exact ⟨v, ext_at hE h1, own_ext h2 hE⟩
theorem Col.wrote {b : Nat} {o : Obj} (h : Col bp wB mk tb s w) (hb : wB.heap.size ≤ b) (hm : ¬ MutC bp mk tb w b) (hW : Wrote w w' b o) : Col bp wB mk tb s w' ∧ ∀ k, MutC bp mk tb w' k → MutC bp mk tb w k := by
  have hlt := h.lt
  refine ⟨⟨hW.os.trans h.os, hW.tape.trans h.tape, hW.output.trans h.output, Nat.le_trans h.size (Nat.le_of_eq hW.size.symm), fun k hk hne => (hW.other k (by omega)).trans (h.other k hk hne), h.lt, ?_, h.len⟩, Col.same (hW.other bp (by omega))⟩
  obtain ⟨v, h1, h2⟩ := h.cell
  exact ⟨v, hW.keep (by omega) h1, own_wrote h2 hW fun e => hm (.inr ⟨v, h1, e⟩)⟩
theorem Col.mut0 (hmk : ∀ v v', mk v = mk v' → v = v') (h : Col bp wB mk tb s w) (k : Nat) (hk : MutC bp mk tb w k) : k < w.heap.size := by
  rcases hk with rfl | ⟨v, h1, h2⟩
  · exact h.lt'
  · obtain ⟨v', h3, h4⟩ := h.cell
    rw [h1] at h3
    obtain rfl := hmk v v' (by simpa using h3)
    exact (h4.lt k h2).2
/-- One more digest. -/
theorem Col.push (hmk : ∀ v v', mk v = mk v' → v = v') {d : List UInt8} (hd : d.length = 16) {v' : Value} (h : Col bp wB mk tb s w) (hv : w.heap[bp]? = some (.cells (mk v) tb (0, 0))) (ho : w1.ownsRow wB.heap.size 44 16 v' (s.length + 1) (digs16 s ++ d.map B)) (hK : Kept w w1 v) (hloc : ∀ k, v'.ownBlock = some k → v.ownBlock = some k ∨ w.heap.size ≤ k)
    (hW : Wrote w1 w2 bp (.cells (mk v') tb (0, 0))) : Col bp wB mk tb (s ++ [d]) w2 ∧ Fra (MutC bp mk tb) w w2 := by
  obtain ⟨v0, h3, h4⟩ := h.cell
  rw [hv] at h3
  obtain rfl := hmk v v0 (by simpa using h3)
  have hge : ∀ k, v.ownBlock = some k → wB.heap.size ≤ k := fun k hk => (h4.lt k hk).1
  have hlt := h.lt
  have hs := h.size
  refine ⟨⟨(hW.os.trans hK.os).trans h.os, (hW.tape.trans hK.tape).trans h.tape, (hW.output.trans hK.output).trans h.output, by have := hK.size; have := hW.size; omega, fun k hk hne => ?_, hlt, ⟨v', hW.at_, ?_⟩, ?_⟩, ?_⟩
  · rw [hW.other k hne, hK.block k (by omega) (fun e => by have := hge k e.symm; omega)]
    exact h.other k hk hne
  · rw [digs16_snoc, List.length_append]
    exact own_wrote ho hW fun e => by have := (ho.lt bp e).1; omega
  · intro x hx
    rcases List.mem_append.1 hx with hx | hx
    · exact h.len x hx
    · rw [List.mem_singleton.1 hx]; exact hd
  · refine ⟨hW.os.trans hK.os, hW.tape.trans hK.tape, hW.output.trans hK.output, by have := hK.size; have := hW.size; omega, fun k hk hm => ?_, fun k hk hm => ?_⟩
    · rw [hW.other k (fun e => hm (.inl e)), hK.block k hk (fun e => hm (.inr ⟨v, hv, e.symm⟩))]
    · rcases hm with h1 | ⟨u, h1, h2⟩
      · exact .inl h1
      · rw [hW.at_] at h1
        obtain rfl := hmk _ _ (show mk v' = mk u by simpa using h1)
        rcases hloc k h2 with h5 | h5
        · exact .inr ⟨v, hv, h5⟩
        · omega
end
/-- A struct without fields, built. -/
theorem e_none132 {a : Act} {N : Nat} {L : Fm} {dst : Option Tmp} {ty : TypeId} {pos : String} {af : Array Edge} {g : Option (Nat × Bool)} (hk : Kn a N L) (w : World) : Ev Tryd.prog ⟨dst, .build 132 #[], ty, pos, af, g⟩ a w (.agg #[]) :=
  e_buildS (ps := []) (vs := []) (fs := #[]) (pl := #[]) hk rfl zr132 Tryd.underlying132 (fun w => by simp) rfl w
def mkP (n f : Int) (v : Value) : Array Value := #[I n, I f, v]
def mkL (v : Value) : Array Value := #[v]
theorem mkP_inj (n f : Int) : ∀ v v', mkP n f v = mkP n f v' → v = v' := fun v v' h => by simpa [mkP] using h
theorem mkL_inj : ∀ v v', mkL v = mkL v' → v = v' := fun v v' h => by simpa [mkL] using h
/-- What lies inside has no nodes outside. -/
theorem rest_in (f t : Nat) : ∀ a b, a < b → f ≤ a → b ≤ t → restS f t a b = [] := by
  unfold restS
  apply walk_ind
  intro a b hab ih hf ht
  have hs : outI f t a b = false := by simp [outI]; omega
  by_cases h2 : 2 ≤ b - a
  · have h3 := hlf_lt h2
    have h4 := hlf_pos (b - a)
    rw [stops_more hs h2, (ih h2).1 hf (by omega), (ih h2).2 (by omega) ht]; rfl
  · exact stops_one hs (by omega)

set_option maxRecDepth 4000 in
set_option maxHeartbeats 1000000 in
theorem c99 (w0 : World) : Calls Tryd.prog 99 #[.agg #[], .agg #[]] w0 fun e w' => e = .returned (.agg #[]) ∧ Ext w0 w' := by
  refine start 6 Tryd.func99 rfl rfl rfl fun a hk => ?_
  have hB : Ext w0 w0 := Below.refl _ _
  refine wp_seq_k fun K1 hK1 => ?_
  refine wp_region_lit ?_
  refine la hk rfl (a_box hk rfl rfl fun a w b2 hk G => ?_)
  have hg_b2 : w0.heap.size ≤ b2 := Nat.le_trans hB.size G.ge
  have hB := ext_trans hB G.ext
  have h_b2 := G.at_
  clear G
  refine la hk rfl (a_box hk rfl rfl fun a w b3 hk G => ?_)
  have n_b2_b3 : b2 ≠ b3 := G.ne h_b2
  have hg_b3 : w0.heap.size ≤ b3 := Nat.le_trans hB.size G.ge
  have h_b2 := ext_at G.ext h_b2
  have hB := ext_trans hB G.ext
  have h_b3 := G.at_
  clear G
  refine la hk rfl (a_alloc hk rfl zr132 fun a w b4 hk G => ?_)
  have n_b2_b4 : b2 ≠ b4 := G.ne h_b2
  have n_b3_b4 : b3 ≠ b4 := G.ne h_b3
  have hg_b4 : w0.heap.size ≤ b4 := Nat.le_trans hB.size G.ge
  have h_b2 := ext_at G.ext h_b2
  have h_b3 := ext_at G.ext h_b3
  have hB := ext_trans hB G.ext
  have h_b4 := G.at_
  clear G
  refine lnil (hK1 _ _ ?_)
  refine wp_seq_k fun K2 hK2 => ?_
  refine wp_region_lit ?_
  refine ls hk rfl rfl rfl (e_none132 hk _) fun a hk => ?_
  refine la hk rfl (a_storeB (cs' := #[]) hk rfl rfl (by simp) sz132 h_b4 rfl fun a w hk W => ?_)
  have h_b2 := W.keep n_b2_b4 h_b2
  have h_b3 := W.keep n_b3_b4 h_b3
  have hB := W.below hB hg_b4
  have h_b4 := W.at_
  clear W
  refine lnil (hK2 _ _ ?_)
  refine wp_ret ?_
  exact retA hk rfl rfl h_b4 Tryd.underlying132 rfl sz132 ⟨rfl, hB⟩

set_option maxRecDepth 4000 in
set_option maxHeartbeats 1000000 in
theorem c103 (w0 : World) : Calls Tryd.prog 103 #[.agg #[], .agg #[]] w0 fun e w' => e = .returned (.agg #[]) ∧ Ext w0 w' := by
  refine start 6 Tryd.func103 rfl rfl rfl fun a hk => ?_
  have hB : Ext w0 w0 := Below.refl _ _
  refine wp_seq_k fun K1 hK1 => ?_
  refine wp_region_lit ?_
  refine la hk rfl (a_box hk rfl rfl fun a w b2 hk G => ?_)
  have hg_b2 : w0.heap.size ≤ b2 := Nat.le_trans hB.size G.ge
  have hB := ext_trans hB G.ext
  have h_b2 := G.at_
  clear G
  refine la hk rfl (a_box hk rfl rfl fun a w b3 hk G => ?_)
  have n_b2_b3 : b2 ≠ b3 := G.ne h_b2
  have hg_b3 : w0.heap.size ≤ b3 := Nat.le_trans hB.size G.ge
  have h_b2 := ext_at G.ext h_b2
  have hB := ext_trans hB G.ext
  have h_b3 := G.at_
  clear G
  refine la hk rfl (a_alloc hk rfl zr132 fun a w b4 hk G => ?_)
  have n_b2_b4 : b2 ≠ b4 := G.ne h_b2
  have n_b3_b4 : b3 ≠ b4 := G.ne h_b3
  have hg_b4 : w0.heap.size ≤ b4 := Nat.le_trans hB.size G.ge
  have h_b2 := ext_at G.ext h_b2
  have h_b3 := ext_at G.ext h_b3
  have hB := ext_trans hB G.ext
  have h_b4 := G.at_
  clear G
  refine lnil (hK1 _ _ ?_)
  refine wp_seq_k fun K2 hK2 => ?_
  refine wp_region_lit ?_
  refine ls hk rfl rfl rfl (e_none132 hk _) fun a hk => ?_
  refine la hk rfl (a_storeB (cs' := #[]) hk rfl rfl (by simp) sz132 h_b4 rfl fun a w hk W => ?_)
  have h_b2 := W.keep n_b2_b4 h_b2
  have h_b3 := W.keep n_b3_b4 h_b3
  have hB := W.below hB hg_b4
  have h_b4 := W.at_
  clear W
  refine lnil (hK2 _ _ ?_)
  refine wp_ret ?_
  exact retA hk rfl rfl h_b4 Tryd.underlying132 rfl sz132 ⟨rfl, hB⟩

set_option maxRecDepth 4000 in
set_option maxHeartbeats 1000000 in
theorem c98 (N₀ f₀ : Int) (xs : List (List UInt8)) (hL : Lv xs) (ad : Option Addr) (c bp bv bf bt : Nat) (wB : World) (s : List (List UInt8)) (a₀ b₀ f t : Nat) (w0 : World) (hJ : Col bp wB (mkP N₀ f₀) 71 s w0) (hs : s.length ≤ a₀)
    (hR : ∀ w, Col bp wB (mkP N₀ f₀) 71 s w → Rs w ad xs.length c xs) (hG : ∀ w, Col bp wB (mkP N₀ f₀) 71 s w → GH w) (h_bv : w0.heap[bv]? = some (.cells #[.slice ad xs.length c] 27 (0, 0))) (m_bv : ¬ MutC bp (mkP N₀ f₀) 71 w0 bv) (h_bf : w0.heap[bf]? = some (.cells #[I f] 3 (0, 0))) (m_bf : ¬ MutC bp (mkP N₀ f₀) 71 w0 bf) (h_bt : w0.heap[bt]? = some (.cells #[I t] 3 (0, 0))) (m_bt : ¬ MutC bp (mkP N₀ f₀) 71 w0 bt) (hab : a₀ < b₀) (hle : b₀ ≤ xs.length) :
    Calls Tryd.prog 98 #[I a₀, I b₀, .pointer (some ⟨bf, 0, none⟩), .pointer (some ⟨bt, 0, none⟩), .pointer (some ⟨bp, 0, none⟩), .pointer (some ⟨bv, 0, none⟩)] w0 fun e w' => ∃ s', e = .returned (.tuple #[.agg #[], .bool (decide (outI f t a₀ b₀ = true ∨ (f ≤ a₀ ∧ b₀ ≤ t)))]) ∧ Col bp wB (mkP N₀ f₀) 71 s' w' ∧ Fra (MutC bp (mkP N₀ f₀) 71) w0 w' ∧ s' = s ++ (if outI f t a₀ b₀ then [rootI xs a₀ b₀] else []) := by
  have hL1 := hL.1
  have hmk := mkP_inj N₀ f₀
  rcases (by omega : b₀ ≤ f ∨ (¬ b₀ ≤ f ∧ t ≤ a₀) ∨ (¬ b₀ ≤ f ∧ ¬ t ≤ a₀ ∧ f ≤ a₀ ∧ b₀ ≤ t) ∨ (¬ b₀ ≤ f ∧ ¬ t ≤ a₀ ∧ ¬ f ≤ a₀) ∨ (¬ b₀ ≤ f ∧ ¬ t ≤ a₀ ∧ f ≤ a₀ ∧ ¬ b₀ ≤ t)) with hc | hc | hc | hc | hc
  · have ho : outI f t a₀ b₀ = true := by unfold outI; simp; omega
    refine start 40 Tryd.func98 rfl rfl rfl fun a hk => ?_
    have hF := Fra.refl (MutC bp (mkP N₀ f₀) 71) w0
    have hC := hJ.size
    have hMx : ∀ s w w', Col bp wB (mkP N₀ f₀) 71 s w → Ext w w' → Col bp wB (mkP N₀ f₀) 71 s w' ∧ ∀ k, MutC bp (mkP N₀ f₀) 71 w' k → MutC bp (mkP N₀ f₀) 71 w k := fun s w w' h hE => h.ext hE
    have hMw : ∀ s w w' b o, Col bp wB (mkP N₀ f₀) 71 s w → wB.heap.size ≤ b → ¬ MutC bp (mkP N₀ f₀) 71 w b → Wrote w w' b o → Col bp wB (mkP N₀ f₀) 71 s w' ∧ ∀ k, MutC bp (mkP N₀ f₀) 71 w' k → MutC bp (mkP N₀ f₀) 71 w k := fun s w w' b o h hb hm hW => h.wrote hb hm hW
    have hM0 : ∀ s w k, Col bp wB (mkP N₀ f₀) 71 s w → MutC bp (mkP N₀ f₀) 71 w k → k < w.heap.size := fun s w k h hk => h.mut0 hmk k hk
    refine wp_seq_k fun K1 hK1 => ?_
    refine wp_region_lit ?_
    refine la hk rfl (a_alloc hk rfl zr132 fun a w b8 hk G => ?_)
    have hM := hMx _ _ _ hJ G.ext
    have m_b8 : ¬ MutC bp (mkP N₀ f₀) 71 w b8 := fun hh => absurd (hM0 _ _ _ hJ (hM.2 b8 hh)) (Nat.not_lt.2 G.ge)
    have n_bv_b8 : bv ≠ b8 := G.ne h_bv
    have h_bv := ext_at G.ext h_bv
    have m_bv : ¬ MutC bp (mkP N₀ f₀) 71 w bv := fun hh => m_bv (hM.2 _ hh)
    have n_bf_b8 : bf ≠ b8 := G.ne h_bf
    have h_bf := ext_at G.ext h_bf
    have m_bf : ¬ MutC bp (mkP N₀ f₀) 71 w bf := fun hh => m_bf (hM.2 _ hh)
    have n_bt_b8 : bt ≠ b8 := G.ne h_bt
    have h_bt := ext_at G.ext h_bt
    have m_bt : ¬ MutC bp (mkP N₀ f₀) 71 w bt := fun hh => m_bt (hM.2 _ hh)
    have hg_b8 : w0.heap.size ≤ b8 := Nat.le_trans hF.size G.ge
    have hF := hF.trans (Fra.ext G.ext hM.2)
    have hJ := hM.1
    clear hM
    have h_b8 := G.at_
    clear G
    refine ls hk rfl rfl rfl (e_assign hk rfl _) fun a hk => ?_
    refine lnil (hK1 _ _ ?_)
    refine wp_seq_k fun K2 hK2 => ?_
    refine wp_block ?_
    refine wp_seq_k fun K3 hK3 => ?_
    refine wp_region_lit ?_
    refine ls hk rfl rfl rfl (e_move hk rfl _) fun a hk => ?_
    refine ls hk rfl rfl rfl (r_ld1 hk rfl Tryd.underlying3 rfl h_bf) fun a hk => ?_
    refine ls hk rfl rfl rfl (e_leq (b := true) hk rfl rfl (decide_eq_true (by omega)) _) fun a hk => ?_
    refine ls hk rfl rfl rfl (e_move hk rfl _) fun a hk => ?_
    refine lno hk rfl rfl rfl fun a hk => ?_
    refine lno hk rfl rfl rfl fun a hk => ?_
    refine lno hk rfl rfl rfl fun a hk => ?_
    refine ls hk rfl rfl rfl (e_pickT hk rfl rfl _) fun a hk => ?_
    refine ls hk rfl rfl rfl (e_assign hk rfl _) fun a hk => ?_
    refine lnil (hK3 _ _ ?_)
    refine cdT hk rfl ?_
    refine wp_seq_k fun K4 hK4 => ?_
    obtain ⟨v, hv, _⟩ := hJ.cell
    have hRw := hR w hJ
    refine wp_region_ok (fun w => w.heap[bp]? = some (.cells ((mkP N₀ f₀) v) 71 (0, 0))) [0, 3, 1, 0, 0, 4, 4, 2, 0, 2] mixed ?_
    have hM := hMx _ _ _ hJ (ext_drew w)
    have h_bv := ext_at (ext_drew w) h_bv
    have m_bv : ¬ MutC bp (mkP N₀ f₀) 71 w.drew bv := fun hh => m_bv (hM.2 _ hh)
    have h_bf := ext_at (ext_drew w) h_bf
    have m_bf : ¬ MutC bp (mkP N₀ f₀) 71 w.drew bf := fun hh => m_bf (hM.2 _ hh)
    have h_bt := ext_at (ext_drew w) h_bt
    have m_bt : ¬ MutC bp (mkP N₀ f₀) 71 w.drew bt := fun hh => m_bt (hM.2 _ hh)
    have h_b8 := ext_at (ext_drew w) h_b8
    have m_b8 : ¬ MutC bp (mkP N₀ f₀) 71 w.drew b8 := fun hh => m_b8 (hM.2 _ hh)
    have hF := hF.trans (Fra.ext (ext_drew w) hM.2)
    have hJ := hM.1
    clear hM
    have hS : (fun w => w.heap[bp]? = some (.cells ((mkP N₀ f₀) v) 71 (0, 0))) w.drew := ext_at (ext_drew w) hv
    refine d0 0 hk rfl (by kernel_rfl) rfl rfl rfl rfl (fun _ => e_field (off := 2) hk rfl Tryd.underlying71 rfl rfl nz69 _) fun a hk => ?_
    refine d3 1 hk rfl (by kernel_rfl) rfl rfl rfl rfl hS (fun w hS => r_load hk rfl Tryd.underlying69 rfl hS rfl) fun a hk => ?_
    refine d1 2 hk rfl (by kernel_rfl) rfl rfl rfl rfl (r_ld1 hk rfl Tryd.underlying27 rfl h_bv) fun a hk => ?_
    refine d0 3 hk rfl (by kernel_rfl) rfl rfl rfl rfl (fun _ => e_move hk rfl _) fun a hk => ?_
    refine d0 4 hk rfl (by kernel_rfl) rfl rfl rfl rfl (fun _ => e_move hk rfl _) fun a hk => ?_
    refine da4 5 hk rfl (by kernel_rfl) rfl rfl hS (a_call hk rfl rfl (c_fn hk rfl ok93) (c93 xs hL ad c a₀ b₀ _ (hR _ hJ) (hG _ hJ) hab hle) ?_)
    rintro e w ⟨rfl, hE⟩
    refine ⟨_, rfl, fun a hk => ⟨ext_at hE hS, ?_⟩⟩
    have hS := ext_at hE hS
    have hM := hMx _ _ _ hJ hE
    have h_bv := ext_at hE h_bv
    have m_bv : ¬ MutC bp (mkP N₀ f₀) 71 w bv := fun hh => m_bv (hM.2 _ hh)
    have h_bf := ext_at hE h_bf
    have m_bf : ¬ MutC bp (mkP N₀ f₀) 71 w bf := fun hh => m_bf (hM.2 _ hh)
    have h_bt := ext_at hE h_bt
    have m_bt : ¬ MutC bp (mkP N₀ f₀) 71 w bt := fun hh => m_bt (hM.2 _ hh)
    have h_b8 := ext_at hE h_b8
    have m_b8 : ¬ MutC bp (mkP N₀ f₀) 71 w b8 := fun hh => m_b8 (hM.2 _ hh)
    have hF := hF.trans (Fra.ext hE hM.2)
    have hJ := hM.1
    clear hM
    clear hE
    refine da4 6 hk rfl (by kernel_rfl) rfl rfl hS (a_lit (cells := ((rootI xs a₀ b₀).map B).toArray) (sz := 16) (by_ := 16) hk rfl rfl Tryd.underlying69 el44 (by decide) (by decide) (lit44 _ rfl _ (by simp)) (by simp) fun a w bl hk G => ⟨ext_at G.ext hS, ?_⟩)
    have hS := ext_at G.ext hS
    have hM := hMx _ _ _ hJ G.ext
    have m_bl : ¬ MutC bp (mkP N₀ f₀) 71 w bl := fun hh => absurd (hM0 _ _ _ hJ (hM.2 bl hh)) (Nat.not_lt.2 G.ge)
    have n_bv_bl : bv ≠ bl := G.ne h_bv
    have h_bv := ext_at G.ext h_bv
    have m_bv : ¬ MutC bp (mkP N₀ f₀) 71 w bv := fun hh => m_bv (hM.2 _ hh)
    have n_bf_bl : bf ≠ bl := G.ne h_bf
    have h_bf := ext_at G.ext h_bf
    have m_bf : ¬ MutC bp (mkP N₀ f₀) 71 w bf := fun hh => m_bf (hM.2 _ hh)
    have n_bt_bl : bt ≠ bl := G.ne h_bt
    have h_bt := ext_at G.ext h_bt
    have m_bt : ¬ MutC bp (mkP N₀ f₀) 71 w bt := fun hh => m_bt (hM.2 _ hh)
    have n_b8_bl : b8 ≠ bl := G.ne h_b8
    have h_b8 := ext_at G.ext h_b8
    have m_b8 : ¬ MutC bp (mkP N₀ f₀) 71 w b8 := fun hh => m_b8 (hM.2 _ hh)
    have hg_bl : w0.heap.size ≤ bl := Nat.le_trans hF.size G.ge
    have hF := hF.trans (Fra.ext G.ext hM.2)
    have hJ := hM.1
    clear hM
    have h_bl := G.at_
    clear G
    obtain ⟨v2, hv2, hown⟩ := hJ.cell
    rw [hS] at hv2
    obtain rfl := hmk v v2 (by simpa using hv2)
    have hRl : Rd w (some ⟨bl, 0, none⟩) 1 1 16 ((rootI xs a₀ b₀).map B) := Rd.of_block h_bl (by simp) (Nat.le_refl _) fun i hi => by rw [Nat.zero_add]; simp
    refine da 7 hk rfl (by kernel_rfl) rfl rfl (a_app2 (news := (rootI xs a₀ b₀).map B) (sz := 16) (by_ := 16) hk rfl rfl hown rfl hRl (bytes_one _) Tryd.underlying69 el44 rfl (by decide) (by omega) (by omega) (by decide) hJ.size fun a w v1 hk hown2 hKp hloc => ?_)
    refine d0 8 hk rfl (by kernel_rfl) rfl rfl rfl rfl (fun _ => e_field (off := 2) hk rfl Tryd.underlying71 rfl rfl nz69 _) fun a hk => ?_
    refine da 9 hk rfl (by kernel_rfl) rfl rfl (a_store hk rfl rfl (by obtain ⟨_, _, e, _⟩ := Rd.of_own hown2; rw [e]; rfl) sz69 (kept_lt hKp hown hJ.lt hS) (by simp [mkP]) fun a w hk W => ?_)
    obtain ⟨hJ1, hE⟩ := hJ.push hmk (d := rootI xs a₀ b₀) (by simp) hS hown2 hKp hloc W
    clear W hown hown2 hKp hloc hS hv2 hRl
    have m2 : ¬ MutC bp (mkP N₀ f₀) 71 w bv := fun hh => m_bv (hE.mut_ _ (heap_lt h_bv) hh)
    have h_bv := hE.at_ m_bv h_bv
    have m_bv := m2
    clear m2
    have m2 : ¬ MutC bp (mkP N₀ f₀) 71 w bf := fun hh => m_bf (hE.mut_ _ (heap_lt h_bf) hh)
    have h_bf := hE.at_ m_bf h_bf
    have m_bf := m2
    clear m2
    have m2 : ¬ MutC bp (mkP N₀ f₀) 71 w bt := fun hh => m_bt (hE.mut_ _ (heap_lt h_bt) hh)
    have h_bt := hE.at_ m_bt h_bt
    have m_bt := m2
    clear m2
    have m2 : ¬ MutC bp (mkP N₀ f₀) 71 w b8 := fun hh => m_b8 (hE.mut_ _ (heap_lt h_b8) hh)
    have h_b8 := hE.at_ m_b8 h_b8
    have m_b8 := m2
    clear m2
    have m2 : ¬ MutC bp (mkP N₀ f₀) 71 w bl := fun hh => m_bl (hE.mut_ _ (heap_lt h_bl) hh)
    have h_bl := hE.at_ m_bl h_bl
    have m_bl := m2
    clear m2
    have hF := hF.trans hE
    clear hJ
    have hJ := hJ1
    clear hE
    refine okFin (by kernel_rfl) (hK4 _ _ ?_)
    refine wp_seq_k fun K5 hK5 => ?_
    refine wp_region_lit ?_
    refine ls hk rfl rfl rfl (e_none132 hk _) fun a hk => ?_
    refine la hk rfl (a_storeB (cs' := #[]) hk rfl rfl (by simp) sz132 h_b8 rfl fun a w hk W => ?_)
    have hM := hMw _ _ _ _ _ hJ (Nat.le_trans hC hg_b8) m_b8 W
    have h_bv := W.keep n_bv_b8 h_bv
    have m_bv : ¬ MutC bp (mkP N₀ f₀) 71 w bv := fun hh => m_bv (hM.2 _ hh)
    have h_bf := W.keep n_bf_b8 h_bf
    have m_bf : ¬ MutC bp (mkP N₀ f₀) 71 w bf := fun hh => m_bf (hM.2 _ hh)
    have h_bt := W.keep n_bt_b8 h_bt
    have m_bt : ¬ MutC bp (mkP N₀ f₀) 71 w bt := fun hh => m_bt (hM.2 _ hh)
    have m_b8 : ¬ MutC bp (mkP N₀ f₀) 71 w b8 := fun hh => m_b8 (hM.2 _ hh)
    have h_bl := W.keep (Ne.symm n_b8_bl) h_bl
    have m_bl : ¬ MutC bp (mkP N₀ f₀) 71 w bl := fun hh => m_bl (hM.2 _ hh)
    have hF := hF.wrote W hg_b8 hM.2
    have hJ := hM.1
    clear hM
    have h_b8 := W.at_
    clear W
    refine ls hk rfl rfl rfl (e_assign hk rfl _) fun a hk => ?_
    refine lnil (hK5 _ _ ?_)
    refine wp_ret ?_
    simp only [blk_ret, then_ret]
    exact retA1 hk rfl rfl rfl h_b8 Tryd.underlying132 rfl sz132 ⟨_, by simp [ho], hJ, hF, by simp [ho]⟩
  · have ho : outI f t a₀ b₀ = true := by unfold outI; simp; omega
    refine start 40 Tryd.func98 rfl rfl rfl fun a hk => ?_
    have hF := Fra.refl (MutC bp (mkP N₀ f₀) 71) w0
    have hC := hJ.size
    have hMx : ∀ s w w', Col bp wB (mkP N₀ f₀) 71 s w → Ext w w' → Col bp wB (mkP N₀ f₀) 71 s w' ∧ ∀ k, MutC bp (mkP N₀ f₀) 71 w' k → MutC bp (mkP N₀ f₀) 71 w k := fun s w w' h hE => h.ext hE
    have hMw : ∀ s w w' b o, Col bp wB (mkP N₀ f₀) 71 s w → wB.heap.size ≤ b → ¬ MutC bp (mkP N₀ f₀) 71 w b → Wrote w w' b o → Col bp wB (mkP N₀ f₀) 71 s w' ∧ ∀ k, MutC bp (mkP N₀ f₀) 71 w' k → MutC bp (mkP N₀ f₀) 71 w k := fun s w w' b o h hb hm hW => h.wrote hb hm hW
    have hM0 : ∀ s w k, Col bp wB (mkP N₀ f₀) 71 s w → MutC bp (mkP N₀ f₀) 71 w k → k < w.heap.size := fun s w k h hk => h.mut0 hmk k hk
    refine wp_seq_k fun K1 hK1 => ?_
    refine wp_region_lit ?_
    refine la hk rfl (a_alloc hk rfl zr132 fun a w b8 hk G => ?_)
    have hM := hMx _ _ _ hJ G.ext
    have m_b8 : ¬ MutC bp (mkP N₀ f₀) 71 w b8 := fun hh => absurd (hM0 _ _ _ hJ (hM.2 b8 hh)) (Nat.not_lt.2 G.ge)
    have n_bv_b8 : bv ≠ b8 := G.ne h_bv
    have h_bv := ext_at G.ext h_bv
    have m_bv : ¬ MutC bp (mkP N₀ f₀) 71 w bv := fun hh => m_bv (hM.2 _ hh)
    have n_bf_b8 : bf ≠ b8 := G.ne h_bf
    have h_bf := ext_at G.ext h_bf
    have m_bf : ¬ MutC bp (mkP N₀ f₀) 71 w bf := fun hh => m_bf (hM.2 _ hh)
    have n_bt_b8 : bt ≠ b8 := G.ne h_bt
    have h_bt := ext_at G.ext h_bt
    have m_bt : ¬ MutC bp (mkP N₀ f₀) 71 w bt := fun hh => m_bt (hM.2 _ hh)
    have hg_b8 : w0.heap.size ≤ b8 := Nat.le_trans hF.size G.ge
    have hF := hF.trans (Fra.ext G.ext hM.2)
    have hJ := hM.1
    clear hM
    have h_b8 := G.at_
    clear G
    refine ls hk rfl rfl rfl (e_assign hk rfl _) fun a hk => ?_
    refine lnil (hK1 _ _ ?_)
    refine wp_seq_k fun K2 hK2 => ?_
    refine wp_block ?_
    refine wp_seq_k fun K3 hK3 => ?_
    refine wp_region_lit ?_
    refine ls hk rfl rfl rfl (e_move hk rfl _) fun a hk => ?_
    refine ls hk rfl rfl rfl (r_ld1 hk rfl Tryd.underlying3 rfl h_bf) fun a hk => ?_
    refine ls hk rfl rfl rfl (e_leq (b := false) hk rfl rfl (decide_eq_false (by omega)) _) fun a hk => ?_
    refine ls hk rfl rfl rfl (e_move hk rfl _) fun a hk => ?_
    refine ls hk rfl rfl rfl (e_move hk rfl _) fun a hk => ?_
    refine ls hk rfl rfl rfl (r_ld1 hk rfl Tryd.underlying3 rfl h_bt) fun a hk => ?_
    refine ls hk rfl rfl rfl (e_geq (b := true) hk rfl rfl (decide_eq_true (by omega)) _) fun a hk => ?_
    refine ls hk rfl rfl rfl (e_pickF hk rfl rfl _) fun a hk => ?_
    refine ls hk rfl rfl rfl (e_assign hk rfl _) fun a hk => ?_
    refine lnil (hK3 _ _ ?_)
    refine cdT hk rfl ?_
    refine wp_seq_k fun K4 hK4 => ?_
    obtain ⟨v, hv, _⟩ := hJ.cell
    have hRw := hR w hJ
    refine wp_region_ok (fun w => w.heap[bp]? = some (.cells ((mkP N₀ f₀) v) 71 (0, 0))) [0, 3, 1, 0, 0, 4, 4, 2, 0, 2] mixed ?_
    have hM := hMx _ _ _ hJ (ext_drew w)
    have h_bv := ext_at (ext_drew w) h_bv
    have m_bv : ¬ MutC bp (mkP N₀ f₀) 71 w.drew bv := fun hh => m_bv (hM.2 _ hh)
    have h_bf := ext_at (ext_drew w) h_bf
    have m_bf : ¬ MutC bp (mkP N₀ f₀) 71 w.drew bf := fun hh => m_bf (hM.2 _ hh)
    have h_bt := ext_at (ext_drew w) h_bt
    have m_bt : ¬ MutC bp (mkP N₀ f₀) 71 w.drew bt := fun hh => m_bt (hM.2 _ hh)
    have h_b8 := ext_at (ext_drew w) h_b8
    have m_b8 : ¬ MutC bp (mkP N₀ f₀) 71 w.drew b8 := fun hh => m_b8 (hM.2 _ hh)
    have hF := hF.trans (Fra.ext (ext_drew w) hM.2)
    have hJ := hM.1
    clear hM
    have hS : (fun w => w.heap[bp]? = some (.cells ((mkP N₀ f₀) v) 71 (0, 0))) w.drew := ext_at (ext_drew w) hv
    refine d0 0 hk rfl (by kernel_rfl) rfl rfl rfl rfl (fun _ => e_field (off := 2) hk rfl Tryd.underlying71 rfl rfl nz69 _) fun a hk => ?_
    refine d3 1 hk rfl (by kernel_rfl) rfl rfl rfl rfl hS (fun w hS => r_load hk rfl Tryd.underlying69 rfl hS rfl) fun a hk => ?_
    refine d1 2 hk rfl (by kernel_rfl) rfl rfl rfl rfl (r_ld1 hk rfl Tryd.underlying27 rfl h_bv) fun a hk => ?_
    refine d0 3 hk rfl (by kernel_rfl) rfl rfl rfl rfl (fun _ => e_move hk rfl _) fun a hk => ?_
    refine d0 4 hk rfl (by kernel_rfl) rfl rfl rfl rfl (fun _ => e_move hk rfl _) fun a hk => ?_
    refine da4 5 hk rfl (by kernel_rfl) rfl rfl hS (a_call hk rfl rfl (c_fn hk rfl ok93) (c93 xs hL ad c a₀ b₀ _ (hR _ hJ) (hG _ hJ) hab hle) ?_)
    rintro e w ⟨rfl, hE⟩
    refine ⟨_, rfl, fun a hk => ⟨ext_at hE hS, ?_⟩⟩
    have hS := ext_at hE hS
    have hM := hMx _ _ _ hJ hE
    have h_bv := ext_at hE h_bv
    have m_bv : ¬ MutC bp (mkP N₀ f₀) 71 w bv := fun hh => m_bv (hM.2 _ hh)
    have h_bf := ext_at hE h_bf
    have m_bf : ¬ MutC bp (mkP N₀ f₀) 71 w bf := fun hh => m_bf (hM.2 _ hh)
    have h_bt := ext_at hE h_bt
    have m_bt : ¬ MutC bp (mkP N₀ f₀) 71 w bt := fun hh => m_bt (hM.2 _ hh)
    have h_b8 := ext_at hE h_b8
    have m_b8 : ¬ MutC bp (mkP N₀ f₀) 71 w b8 := fun hh => m_b8 (hM.2 _ hh)
    have hF := hF.trans (Fra.ext hE hM.2)
    have hJ := hM.1
    clear hM
    clear hE
    refine da4 6 hk rfl (by kernel_rfl) rfl rfl hS (a_lit (cells := ((rootI xs a₀ b₀).map B).toArray) (sz := 16) (by_ := 16) hk rfl rfl Tryd.underlying69 el44 (by decide) (by decide) (lit44 _ rfl _ (by simp)) (by simp) fun a w bl hk G => ⟨ext_at G.ext hS, ?_⟩)
    have hS := ext_at G.ext hS
    have hM := hMx _ _ _ hJ G.ext
    have m_bl : ¬ MutC bp (mkP N₀ f₀) 71 w bl := fun hh => absurd (hM0 _ _ _ hJ (hM.2 bl hh)) (Nat.not_lt.2 G.ge)
    have n_bv_bl : bv ≠ bl := G.ne h_bv
    have h_bv := ext_at G.ext h_bv
    have m_bv : ¬ MutC bp (mkP N₀ f₀) 71 w bv := fun hh => m_bv (hM.2 _ hh)
    have n_bf_bl : bf ≠ bl := G.ne h_bf
    have h_bf := ext_at G.ext h_bf
    have m_bf : ¬ MutC bp (mkP N₀ f₀) 71 w bf := fun hh => m_bf (hM.2 _ hh)
    have n_bt_bl : bt ≠ bl := G.ne h_bt
    have h_bt := ext_at G.ext h_bt
    have m_bt : ¬ MutC bp (mkP N₀ f₀) 71 w bt := fun hh => m_bt (hM.2 _ hh)
    have n_b8_bl : b8 ≠ bl := G.ne h_b8
    have h_b8 := ext_at G.ext h_b8
    have m_b8 : ¬ MutC bp (mkP N₀ f₀) 71 w b8 := fun hh => m_b8 (hM.2 _ hh)
    have hg_bl : w0.heap.size ≤ bl := Nat.le_trans hF.size G.ge
    have hF := hF.trans (Fra.ext G.ext hM.2)
    have hJ := hM.1
    clear hM
    have h_bl := G.at_
    clear G
    obtain ⟨v2, hv2, hown⟩ := hJ.cell
    rw [hS] at hv2
    obtain rfl := hmk v v2 (by simpa using hv2)
    have hRl : Rd w (some ⟨bl, 0, none⟩) 1 1 16 ((rootI xs a₀ b₀).map B) := Rd.of_block h_bl (by simp) (Nat.le_refl _) fun i hi => by rw [Nat.zero_add]; simp
    refine da 7 hk rfl (by kernel_rfl) rfl rfl (a_app2 (news := (rootI xs a₀ b₀).map B) (sz := 16) (by_ := 16) hk rfl rfl hown rfl hRl (bytes_one _) Tryd.underlying69 el44 rfl (by decide) (by omega) (by omega) (by decide) hJ.size fun a w v1 hk hown2 hKp hloc => ?_)
    refine d0 8 hk rfl (by kernel_rfl) rfl rfl rfl rfl (fun _ => e_field (off := 2) hk rfl Tryd.underlying71 rfl rfl nz69 _) fun a hk => ?_
    refine da 9 hk rfl (by kernel_rfl) rfl rfl (a_store hk rfl rfl (by obtain ⟨_, _, e, _⟩ := Rd.of_own hown2; rw [e]; rfl) sz69 (kept_lt hKp hown hJ.lt hS) (by simp [mkP]) fun a w hk W => ?_)
    obtain ⟨hJ1, hE⟩ := hJ.push hmk (d := rootI xs a₀ b₀) (by simp) hS hown2 hKp hloc W
    clear W hown hown2 hKp hloc hS hv2 hRl
    have m2 : ¬ MutC bp (mkP N₀ f₀) 71 w bv := fun hh => m_bv (hE.mut_ _ (heap_lt h_bv) hh)
    have h_bv := hE.at_ m_bv h_bv
    have m_bv := m2
    clear m2
    have m2 : ¬ MutC bp (mkP N₀ f₀) 71 w bf := fun hh => m_bf (hE.mut_ _ (heap_lt h_bf) hh)
    have h_bf := hE.at_ m_bf h_bf
    have m_bf := m2
    clear m2
    have m2 : ¬ MutC bp (mkP N₀ f₀) 71 w bt := fun hh => m_bt (hE.mut_ _ (heap_lt h_bt) hh)
    have h_bt := hE.at_ m_bt h_bt
    have m_bt := m2
    clear m2
    have m2 : ¬ MutC bp (mkP N₀ f₀) 71 w b8 := fun hh => m_b8 (hE.mut_ _ (heap_lt h_b8) hh)
    have h_b8 := hE.at_ m_b8 h_b8
    have m_b8 := m2
    clear m2
    have m2 : ¬ MutC bp (mkP N₀ f₀) 71 w bl := fun hh => m_bl (hE.mut_ _ (heap_lt h_bl) hh)
    have h_bl := hE.at_ m_bl h_bl
    have m_bl := m2
    clear m2
    have hF := hF.trans hE
    clear hJ
    have hJ := hJ1
    clear hE
    refine okFin (by kernel_rfl) (hK4 _ _ ?_)
    refine wp_seq_k fun K5 hK5 => ?_
    refine wp_region_lit ?_
    refine ls hk rfl rfl rfl (e_none132 hk _) fun a hk => ?_
    refine la hk rfl (a_storeB (cs' := #[]) hk rfl rfl (by simp) sz132 h_b8 rfl fun a w hk W => ?_)
    have hM := hMw _ _ _ _ _ hJ (Nat.le_trans hC hg_b8) m_b8 W
    have h_bv := W.keep n_bv_b8 h_bv
    have m_bv : ¬ MutC bp (mkP N₀ f₀) 71 w bv := fun hh => m_bv (hM.2 _ hh)
    have h_bf := W.keep n_bf_b8 h_bf
    have m_bf : ¬ MutC bp (mkP N₀ f₀) 71 w bf := fun hh => m_bf (hM.2 _ hh)
    have h_bt := W.keep n_bt_b8 h_bt
    have m_bt : ¬ MutC bp (mkP N₀ f₀) 71 w bt := fun hh => m_bt (hM.2 _ hh)
    have m_b8 : ¬ MutC bp (mkP N₀ f₀) 71 w b8 := fun hh => m_b8 (hM.2 _ hh)
    have h_bl := W.keep (Ne.symm n_b8_bl) h_bl
    have m_bl : ¬ MutC bp (mkP N₀ f₀) 71 w bl := fun hh => m_bl (hM.2 _ hh)
    have hF := hF.wrote W hg_b8 hM.2
    have hJ := hM.1
    clear hM
    have h_b8 := W.at_
    clear W
    refine ls hk rfl rfl rfl (e_assign hk rfl _) fun a hk => ?_
    refine lnil (hK5 _ _ ?_)
    refine wp_ret ?_
    simp only [blk_ret, then_ret]
    exact retA1 hk rfl rfl rfl h_b8 Tryd.underlying132 rfl sz132 ⟨_, by simp [ho], hJ, hF, by simp [ho]⟩
  · have ho : outI f t a₀ b₀ = false := by unfold outI; simp; omega
    have hin : f ≤ a₀ ∧ b₀ ≤ t := by omega
    refine start 40 Tryd.func98 rfl rfl rfl fun a hk => ?_
    have hF := Fra.refl (MutC bp (mkP N₀ f₀) 71) w0
    have hC := hJ.size
    have hMx : ∀ s w w', Col bp wB (mkP N₀ f₀) 71 s w → Ext w w' → Col bp wB (mkP N₀ f₀) 71 s w' ∧ ∀ k, MutC bp (mkP N₀ f₀) 71 w' k → MutC bp (mkP N₀ f₀) 71 w k := fun s w w' h hE => h.ext hE
    have hMw : ∀ s w w' b o, Col bp wB (mkP N₀ f₀) 71 s w → wB.heap.size ≤ b → ¬ MutC bp (mkP N₀ f₀) 71 w b → Wrote w w' b o → Col bp wB (mkP N₀ f₀) 71 s w' ∧ ∀ k, MutC bp (mkP N₀ f₀) 71 w' k → MutC bp (mkP N₀ f₀) 71 w k := fun s w w' b o h hb hm hW => h.wrote hb hm hW
    have hM0 : ∀ s w k, Col bp wB (mkP N₀ f₀) 71 s w → MutC bp (mkP N₀ f₀) 71 w k → k < w.heap.size := fun s w k h hk => h.mut0 hmk k hk
    refine wp_seq_k fun K1 hK1 => ?_
    refine wp_region_lit ?_
    refine la hk rfl (a_alloc hk rfl zr132 fun a w b8 hk G => ?_)
    have hM := hMx _ _ _ hJ G.ext
    have m_b8 : ¬ MutC bp (mkP N₀ f₀) 71 w b8 := fun hh => absurd (hM0 _ _ _ hJ (hM.2 b8 hh)) (Nat.not_lt.2 G.ge)
    have n_bv_b8 : bv ≠ b8 := G.ne h_bv
    have h_bv := ext_at G.ext h_bv
    have m_bv : ¬ MutC bp (mkP N₀ f₀) 71 w bv := fun hh => m_bv (hM.2 _ hh)
    have n_bf_b8 : bf ≠ b8 := G.ne h_bf
    have h_bf := ext_at G.ext h_bf
    have m_bf : ¬ MutC bp (mkP N₀ f₀) 71 w bf := fun hh => m_bf (hM.2 _ hh)
    have n_bt_b8 : bt ≠ b8 := G.ne h_bt
    have h_bt := ext_at G.ext h_bt
    have m_bt : ¬ MutC bp (mkP N₀ f₀) 71 w bt := fun hh => m_bt (hM.2 _ hh)
    have hg_b8 : w0.heap.size ≤ b8 := Nat.le_trans hF.size G.ge
    have hF := hF.trans (Fra.ext G.ext hM.2)
    have hJ := hM.1
    clear hM
    have h_b8 := G.at_
    clear G
    refine ls hk rfl rfl rfl (e_assign hk rfl _) fun a hk => ?_
    refine lnil (hK1 _ _ ?_)
    refine wp_seq_k fun K2 hK2 => ?_
    refine wp_block ?_
    refine wp_seq_k fun K3 hK3 => ?_
    refine wp_region_lit ?_
    refine ls hk rfl rfl rfl (e_move hk rfl _) fun a hk => ?_
    refine ls hk rfl rfl rfl (r_ld1 hk rfl Tryd.underlying3 rfl h_bf) fun a hk => ?_
    refine ls hk rfl rfl rfl (e_leq (b := false) hk rfl rfl (decide_eq_false (by omega)) _) fun a hk => ?_
    refine ls hk rfl rfl rfl (e_move hk rfl _) fun a hk => ?_
    refine ls hk rfl rfl rfl (e_move hk rfl _) fun a hk => ?_
    refine ls hk rfl rfl rfl (r_ld1 hk rfl Tryd.underlying3 rfl h_bt) fun a hk => ?_
    refine ls hk rfl rfl rfl (e_geq (b := false) hk rfl rfl (decide_eq_false (by omega)) _) fun a hk => ?_
    refine ls hk rfl rfl rfl (e_pickF hk rfl rfl _) fun a hk => ?_
    refine ls hk rfl rfl rfl (e_assign hk rfl _) fun a hk => ?_
    refine lnil (hK3 _ _ ?_)
    refine cdF hk rfl ?_
    refine wp_seq_k fun K4 hK4 => ?_
    refine wp_region_lit ?_
    refine ls hk rfl rfl rfl (e_move hk rfl _) fun a hk => ?_
    refine ls hk rfl rfl rfl (r_ld1 hk rfl Tryd.underlying3 rfl h_bf) fun a hk => ?_
    refine ls hk rfl rfl rfl (e_geq (b := true) hk rfl rfl (decide_eq_true (by omega)) _) fun a hk => ?_
    refine ls hk rfl rfl rfl (e_move hk rfl _) fun a hk => ?_
    refine ls hk rfl rfl rfl (e_move hk rfl _) fun a hk => ?_
    refine ls hk rfl rfl rfl (r_ld1 hk rfl Tryd.underlying3 rfl h_bt) fun a hk => ?_
    refine ls hk rfl rfl rfl (e_leq (b := true) hk rfl rfl (decide_eq_true (by omega)) _) fun a hk => ?_
    refine ls hk rfl rfl rfl (e_pickT hk rfl rfl _) fun a hk => ?_
    refine ls hk rfl rfl rfl (e_assign hk rfl _) fun a hk => ?_
    refine lnil (hK4 _ _ ?_)
    refine cdT hk rfl ?_
    refine wp_seq_k fun K5 hK5 => ?_
    refine wp_region_lit ?_
    refine ls hk rfl rfl rfl (e_none132 hk _) fun a hk => ?_
    refine la hk rfl (a_storeB (cs' := #[]) hk rfl rfl (by simp) sz132 h_b8 rfl fun a w hk W => ?_)
    have hM := hMw _ _ _ _ _ hJ (Nat.le_trans hC hg_b8) m_b8 W
    have h_bv := W.keep n_bv_b8 h_bv
    have m_bv : ¬ MutC bp (mkP N₀ f₀) 71 w bv := fun hh => m_bv (hM.2 _ hh)
    have h_bf := W.keep n_bf_b8 h_bf
    have m_bf : ¬ MutC bp (mkP N₀ f₀) 71 w bf := fun hh => m_bf (hM.2 _ hh)
    have h_bt := W.keep n_bt_b8 h_bt
    have m_bt : ¬ MutC bp (mkP N₀ f₀) 71 w bt := fun hh => m_bt (hM.2 _ hh)
    have m_b8 : ¬ MutC bp (mkP N₀ f₀) 71 w b8 := fun hh => m_b8 (hM.2 _ hh)
    have hF := hF.wrote W hg_b8 hM.2
    have hJ := hM.1
    clear hM
    have h_b8 := W.at_
    clear W
    refine ls hk rfl rfl rfl (e_assign hk rfl _) fun a hk => ?_
    refine lnil (hK5 _ _ ?_)
    refine wp_ret ?_
    simp only [blk_ret, then_ret]
    exact retA1 hk rfl rfl rfl h_b8 Tryd.underlying132 rfl sz132 ⟨_, by simp [ho, hin], hJ, hF, by simp [ho]⟩
  · have ho : outI f t a₀ b₀ = false := by unfold outI; simp; omega
    have hin : ¬ (f ≤ a₀ ∧ b₀ ≤ t) := by omega
    refine start 40 Tryd.func98 rfl rfl rfl fun a hk => ?_
    have hF := Fra.refl (MutC bp (mkP N₀ f₀) 71) w0
    have hC := hJ.size
    have hMx : ∀ s w w', Col bp wB (mkP N₀ f₀) 71 s w → Ext w w' → Col bp wB (mkP N₀ f₀) 71 s w' ∧ ∀ k, MutC bp (mkP N₀ f₀) 71 w' k → MutC bp (mkP N₀ f₀) 71 w k := fun s w w' h hE => h.ext hE
    have hMw : ∀ s w w' b o, Col bp wB (mkP N₀ f₀) 71 s w → wB.heap.size ≤ b → ¬ MutC bp (mkP N₀ f₀) 71 w b → Wrote w w' b o → Col bp wB (mkP N₀ f₀) 71 s w' ∧ ∀ k, MutC bp (mkP N₀ f₀) 71 w' k → MutC bp (mkP N₀ f₀) 71 w k := fun s w w' b o h hb hm hW => h.wrote hb hm hW
    have hM0 : ∀ s w k, Col bp wB (mkP N₀ f₀) 71 s w → MutC bp (mkP N₀ f₀) 71 w k → k < w.heap.size := fun s w k h hk => h.mut0 hmk k hk
    refine wp_seq_k fun K1 hK1 => ?_
    refine wp_region_lit ?_
    refine la hk rfl (a_alloc hk rfl zr132 fun a w b8 hk G => ?_)
    have hM := hMx _ _ _ hJ G.ext
    have m_b8 : ¬ MutC bp (mkP N₀ f₀) 71 w b8 := fun hh => absurd (hM0 _ _ _ hJ (hM.2 b8 hh)) (Nat.not_lt.2 G.ge)
    have n_bv_b8 : bv ≠ b8 := G.ne h_bv
    have h_bv := ext_at G.ext h_bv
    have m_bv : ¬ MutC bp (mkP N₀ f₀) 71 w bv := fun hh => m_bv (hM.2 _ hh)
    have n_bf_b8 : bf ≠ b8 := G.ne h_bf
    have h_bf := ext_at G.ext h_bf
    have m_bf : ¬ MutC bp (mkP N₀ f₀) 71 w bf := fun hh => m_bf (hM.2 _ hh)
    have n_bt_b8 : bt ≠ b8 := G.ne h_bt
    have h_bt := ext_at G.ext h_bt
    have m_bt : ¬ MutC bp (mkP N₀ f₀) 71 w bt := fun hh => m_bt (hM.2 _ hh)
    have hg_b8 : w0.heap.size ≤ b8 := Nat.le_trans hF.size G.ge
    have hF := hF.trans (Fra.ext G.ext hM.2)
    have hJ := hM.1
    clear hM
    have h_b8 := G.at_
    clear G
    refine ls hk rfl rfl rfl (e_assign hk rfl _) fun a hk => ?_
    refine lnil (hK1 _ _ ?_)
    refine wp_seq_k fun K2 hK2 => ?_
    refine wp_block ?_
    refine wp_seq_k fun K3 hK3 => ?_
    refine wp_region_lit ?_
    refine ls hk rfl rfl rfl (e_move hk rfl _) fun a hk => ?_
    refine ls hk rfl rfl rfl (r_ld1 hk rfl Tryd.underlying3 rfl h_bf) fun a hk => ?_
    refine ls hk rfl rfl rfl (e_leq (b := false) hk rfl rfl (decide_eq_false (by omega)) _) fun a hk => ?_
    refine ls hk rfl rfl rfl (e_move hk rfl _) fun a hk => ?_
    refine ls hk rfl rfl rfl (e_move hk rfl _) fun a hk => ?_
    refine ls hk rfl rfl rfl (r_ld1 hk rfl Tryd.underlying3 rfl h_bt) fun a hk => ?_
    refine ls hk rfl rfl rfl (e_geq (b := false) hk rfl rfl (decide_eq_false (by omega)) _) fun a hk => ?_
    refine ls hk rfl rfl rfl (e_pickF hk rfl rfl _) fun a hk => ?_
    refine ls hk rfl rfl rfl (e_assign hk rfl _) fun a hk => ?_
    refine lnil (hK3 _ _ ?_)
    refine cdF hk rfl ?_
    refine wp_seq_k fun K4 hK4 => ?_
    refine wp_region_lit ?_
    refine ls hk rfl rfl rfl (e_move hk rfl _) fun a hk => ?_
    refine ls hk rfl rfl rfl (r_ld1 hk rfl Tryd.underlying3 rfl h_bf) fun a hk => ?_
    refine ls hk rfl rfl rfl (e_geq (b := false) hk rfl rfl (decide_eq_false (by omega)) _) fun a hk => ?_
    refine ls hk rfl rfl rfl (e_move hk rfl _) fun a hk => ?_
    refine lno hk rfl rfl rfl fun a hk => ?_
    refine lno hk rfl rfl rfl fun a hk => ?_
    refine lno hk rfl rfl rfl fun a hk => ?_
    refine ls hk rfl rfl rfl (e_pickF hk rfl rfl _) fun a hk => ?_
    refine ls hk rfl rfl rfl (e_assign hk rfl _) fun a hk => ?_
    refine lnil (hK4 _ _ ?_)
    refine cdF hk rfl ?_
    refine wp_skip (hK2 _ _ ?_)
    refine wp_seq_k fun K5 hK5 => ?_
    refine wp_region_lit ?_
    refine ls hk rfl rfl rfl (e_none132 hk _) fun a hk => ?_
    refine la hk rfl (a_storeB (cs' := #[]) hk rfl rfl (by simp) sz132 h_b8 rfl fun a w hk W => ?_)
    have hM := hMw _ _ _ _ _ hJ (Nat.le_trans hC hg_b8) m_b8 W
    have h_bv := W.keep n_bv_b8 h_bv
    have m_bv : ¬ MutC bp (mkP N₀ f₀) 71 w bv := fun hh => m_bv (hM.2 _ hh)
    have h_bf := W.keep n_bf_b8 h_bf
    have m_bf : ¬ MutC bp (mkP N₀ f₀) 71 w bf := fun hh => m_bf (hM.2 _ hh)
    have h_bt := W.keep n_bt_b8 h_bt
    have m_bt : ¬ MutC bp (mkP N₀ f₀) 71 w bt := fun hh => m_bt (hM.2 _ hh)
    have m_b8 : ¬ MutC bp (mkP N₀ f₀) 71 w b8 := fun hh => m_b8 (hM.2 _ hh)
    have hF := hF.wrote W hg_b8 hM.2
    have hJ := hM.1
    clear hM
    have h_b8 := W.at_
    clear W
    refine ls hk rfl rfl rfl (e_assign hk rfl _) fun a hk => ?_
    refine lnil (hK5 _ _ ?_)
    refine wp_ret ?_
    exact retA1 hk rfl rfl rfl h_b8 Tryd.underlying132 rfl sz132 ⟨_, by simp [ho, hin], hJ, hF, by simp [ho]⟩
  · have ho : outI f t a₀ b₀ = false := by unfold outI; simp; omega
    have hin : ¬ (f ≤ a₀ ∧ b₀ ≤ t) := by omega
    refine start 40 Tryd.func98 rfl rfl rfl fun a hk => ?_
    have hF := Fra.refl (MutC bp (mkP N₀ f₀) 71) w0
    have hC := hJ.size
    have hMx : ∀ s w w', Col bp wB (mkP N₀ f₀) 71 s w → Ext w w' → Col bp wB (mkP N₀ f₀) 71 s w' ∧ ∀ k, MutC bp (mkP N₀ f₀) 71 w' k → MutC bp (mkP N₀ f₀) 71 w k := fun s w w' h hE => h.ext hE
    have hMw : ∀ s w w' b o, Col bp wB (mkP N₀ f₀) 71 s w → wB.heap.size ≤ b → ¬ MutC bp (mkP N₀ f₀) 71 w b → Wrote w w' b o → Col bp wB (mkP N₀ f₀) 71 s w' ∧ ∀ k, MutC bp (mkP N₀ f₀) 71 w' k → MutC bp (mkP N₀ f₀) 71 w k := fun s w w' b o h hb hm hW => h.wrote hb hm hW
    have hM0 : ∀ s w k, Col bp wB (mkP N₀ f₀) 71 s w → MutC bp (mkP N₀ f₀) 71 w k → k < w.heap.size := fun s w k h hk => h.mut0 hmk k hk
    refine wp_seq_k fun K1 hK1 => ?_
    refine wp_region_lit ?_
    refine la hk rfl (a_alloc hk rfl zr132 fun a w b8 hk G => ?_)
    have hM := hMx _ _ _ hJ G.ext
    have m_b8 : ¬ MutC bp (mkP N₀ f₀) 71 w b8 := fun hh => absurd (hM0 _ _ _ hJ (hM.2 b8 hh)) (Nat.not_lt.2 G.ge)
    have n_bv_b8 : bv ≠ b8 := G.ne h_bv
    have h_bv := ext_at G.ext h_bv
    have m_bv : ¬ MutC bp (mkP N₀ f₀) 71 w bv := fun hh => m_bv (hM.2 _ hh)
    have n_bf_b8 : bf ≠ b8 := G.ne h_bf
    have h_bf := ext_at G.ext h_bf
    have m_bf : ¬ MutC bp (mkP N₀ f₀) 71 w bf := fun hh => m_bf (hM.2 _ hh)
    have n_bt_b8 : bt ≠ b8 := G.ne h_bt
    have h_bt := ext_at G.ext h_bt
    have m_bt : ¬ MutC bp (mkP N₀ f₀) 71 w bt := fun hh => m_bt (hM.2 _ hh)
    have hg_b8 : w0.heap.size ≤ b8 := Nat.le_trans hF.size G.ge
    have hF := hF.trans (Fra.ext G.ext hM.2)
    have hJ := hM.1
    clear hM
    have h_b8 := G.at_
    clear G
    refine ls hk rfl rfl rfl (e_assign hk rfl _) fun a hk => ?_
    refine lnil (hK1 _ _ ?_)
    refine wp_seq_k fun K2 hK2 => ?_
    refine wp_block ?_
    refine wp_seq_k fun K3 hK3 => ?_
    refine wp_region_lit ?_
    refine ls hk rfl rfl rfl (e_move hk rfl _) fun a hk => ?_
    refine ls hk rfl rfl rfl (r_ld1 hk rfl Tryd.underlying3 rfl h_bf) fun a hk => ?_
    refine ls hk rfl rfl rfl (e_leq (b := false) hk rfl rfl (decide_eq_false (by omega)) _) fun a hk => ?_
    refine ls hk rfl rfl rfl (e_move hk rfl _) fun a hk => ?_
    refine ls hk rfl rfl rfl (e_move hk rfl _) fun a hk => ?_
    refine ls hk rfl rfl rfl (r_ld1 hk rfl Tryd.underlying3 rfl h_bt) fun a hk => ?_
    refine ls hk rfl rfl rfl (e_geq (b := false) hk rfl rfl (decide_eq_false (by omega)) _) fun a hk => ?_
    refine ls hk rfl rfl rfl (e_pickF hk rfl rfl _) fun a hk => ?_
    refine ls hk rfl rfl rfl (e_assign hk rfl _) fun a hk => ?_
    refine lnil (hK3 _ _ ?_)
    refine cdF hk rfl ?_
    refine wp_seq_k fun K4 hK4 => ?_
    refine wp_region_lit ?_
    refine ls hk rfl rfl rfl (e_move hk rfl _) fun a hk => ?_
    refine ls hk rfl rfl rfl (r_ld1 hk rfl Tryd.underlying3 rfl h_bf) fun a hk => ?_
    refine ls hk rfl rfl rfl (e_geq (b := true) hk rfl rfl (decide_eq_true (by omega)) _) fun a hk => ?_
    refine ls hk rfl rfl rfl (e_move hk rfl _) fun a hk => ?_
    refine ls hk rfl rfl rfl (e_move hk rfl _) fun a hk => ?_
    refine ls hk rfl rfl rfl (r_ld1 hk rfl Tryd.underlying3 rfl h_bt) fun a hk => ?_
    refine ls hk rfl rfl rfl (e_leq (b := false) hk rfl rfl (decide_eq_false (by omega)) _) fun a hk => ?_
    refine ls hk rfl rfl rfl (e_pickT hk rfl rfl _) fun a hk => ?_
    refine ls hk rfl rfl rfl (e_assign hk rfl _) fun a hk => ?_
    refine lnil (hK4 _ _ ?_)
    refine cdF hk rfl ?_
    refine wp_skip (hK2 _ _ ?_)
    refine wp_seq_k fun K5 hK5 => ?_
    refine wp_region_lit ?_
    refine ls hk rfl rfl rfl (e_none132 hk _) fun a hk => ?_
    refine la hk rfl (a_storeB (cs' := #[]) hk rfl rfl (by simp) sz132 h_b8 rfl fun a w hk W => ?_)
    have hM := hMw _ _ _ _ _ hJ (Nat.le_trans hC hg_b8) m_b8 W
    have h_bv := W.keep n_bv_b8 h_bv
    have m_bv : ¬ MutC bp (mkP N₀ f₀) 71 w bv := fun hh => m_bv (hM.2 _ hh)
    have h_bf := W.keep n_bf_b8 h_bf
    have m_bf : ¬ MutC bp (mkP N₀ f₀) 71 w bf := fun hh => m_bf (hM.2 _ hh)
    have h_bt := W.keep n_bt_b8 h_bt
    have m_bt : ¬ MutC bp (mkP N₀ f₀) 71 w bt := fun hh => m_bt (hM.2 _ hh)
    have m_b8 : ¬ MutC bp (mkP N₀ f₀) 71 w b8 := fun hh => m_b8 (hM.2 _ hh)
    have hF := hF.wrote W hg_b8 hM.2
    have hJ := hM.1
    clear hM
    have h_b8 := W.at_
    clear W
    refine ls hk rfl rfl rfl (e_assign hk rfl _) fun a hk => ?_
    refine lnil (hK5 _ _ ?_)
    refine wp_ret ?_
    exact retA1 hk rfl rfl rfl h_b8 Tryd.underlying132 rfl sz132 ⟨_, by simp [ho, hin], hJ, hF, by simp [ho]⟩

set_option maxRecDepth 4000 in
set_option maxHeartbeats 1000000 in
theorem c102 (xs : List (List UInt8)) (hL : Lv xs) (ad : Option Addr) (c bp bv bn : Nat) (wB : World) (s : List (List UInt8)) (a₀ b₀ n₀ : Nat) (w0 : World) (hJ : Col bp wB mkL 69 s w0) (hs : s.length ≤ a₀)
    (hR : ∀ w, Col bp wB mkL 69 s w → Rs w ad xs.length c xs) (hG : ∀ w, Col bp wB mkL 69 s w → GH w) (h_bv : w0.heap[bv]? = some (.cells #[.slice ad xs.length c] 27 (0, 0))) (m_bv : ¬ MutC bp mkL 69 w0 bv) (h_bn : w0.heap[bn]? = some (.cells #[I n₀] 3 (0, 0))) (m_bn : ¬ MutC bp mkL 69 w0 bn) (hab : a₀ < b₀) (hle : b₀ ≤ xs.length) :
    Calls Tryd.prog 102 #[I a₀, I b₀, .pointer (some ⟨bn, 0, none⟩), .pointer (some ⟨bp, 0, none⟩), .pointer (some ⟨bv, 0, none⟩)] w0 fun e w' => ∃ s', e = .returned (.tuple #[.agg #[], .bool (farB n₀ a₀ b₀)]) ∧ Col bp wB mkL 69 s' w' ∧ Fra (MutC bp mkL 69) w0 w' ∧ s' = s ++ (if farB n₀ a₀ b₀ then [rootI xs a₀ b₀] else []) := by
  have hL1 := hL.1
  have hmk := mkL_inj
  rcases (by omega : b₀ ≤ n₀ ∨ (¬ b₀ ≤ n₀ ∧ n₀ ≤ a₀) ∨ (¬ b₀ ≤ n₀ ∧ ¬ n₀ ≤ a₀)) with hc | hc | hc
  · have ho : farB n₀ a₀ b₀ = true := by unfold farB; simp; omega
    refine start 26 Tryd.func102 rfl rfl rfl fun a hk => ?_
    have hF := Fra.refl (MutC bp mkL 69) w0
    have hC := hJ.size
    have hMx : ∀ s w w', Col bp wB mkL 69 s w → Ext w w' → Col bp wB mkL 69 s w' ∧ ∀ k, MutC bp mkL 69 w' k → MutC bp mkL 69 w k := fun s w w' h hE => h.ext hE
    have hMw : ∀ s w w' b o, Col bp wB mkL 69 s w → wB.heap.size ≤ b → ¬ MutC bp mkL 69 w b → Wrote w w' b o → Col bp wB mkL 69 s w' ∧ ∀ k, MutC bp mkL 69 w' k → MutC bp mkL 69 w k := fun s w w' b o h hb hm hW => h.wrote hb hm hW
    have hM0 : ∀ s w k, Col bp wB mkL 69 s w → MutC bp mkL 69 w k → k < w.heap.size := fun s w k h hk => h.mut0 hmk k hk
    refine wp_seq_k fun K1 hK1 => ?_
    refine wp_region_lit ?_
    refine la hk rfl (a_alloc hk rfl zr132 fun a w b7 hk G => ?_)
    have hM := hMx _ _ _ hJ G.ext
    have m_b7 : ¬ MutC bp mkL 69 w b7 := fun hh => absurd (hM0 _ _ _ hJ (hM.2 b7 hh)) (Nat.not_lt.2 G.ge)
    have n_bv_b7 : bv ≠ b7 := G.ne h_bv
    have h_bv := ext_at G.ext h_bv
    have m_bv : ¬ MutC bp mkL 69 w bv := fun hh => m_bv (hM.2 _ hh)
    have n_bn_b7 : bn ≠ b7 := G.ne h_bn
    have h_bn := ext_at G.ext h_bn
    have m_bn : ¬ MutC bp mkL 69 w bn := fun hh => m_bn (hM.2 _ hh)
    have hg_b7 : w0.heap.size ≤ b7 := Nat.le_trans hF.size G.ge
    have hF := hF.trans (Fra.ext G.ext hM.2)
    have hJ := hM.1
    clear hM
    have h_b7 := G.at_
    clear G
    refine ls hk rfl rfl rfl (e_assign hk rfl _) fun a hk => ?_
    refine lnil (hK1 _ _ ?_)
    refine wp_seq_k fun K2 hK2 => ?_
    refine wp_seq_k fun K3 hK3 => ?_
    refine wp_region_lit ?_
    refine ls hk rfl rfl rfl (e_move hk rfl _) fun a hk => ?_
    refine ls hk rfl rfl rfl (r_ld1 hk rfl Tryd.underlying3 rfl h_bn) fun a hk => ?_
    refine ls hk rfl rfl rfl (e_gtr (b := false) hk rfl rfl (decide_eq_false (by omega)) _) fun a hk => ?_
    refine ls hk rfl rfl rfl (e_move hk rfl _) fun a hk => ?_
    refine lno hk rfl rfl rfl fun a hk => ?_
    refine lno hk rfl rfl rfl fun a hk => ?_
    refine lno hk rfl rfl rfl fun a hk => ?_
    refine ls hk rfl rfl rfl (e_pickF hk rfl rfl _) fun a hk => ?_
    refine lnil (hK3 _ _ ?_)
    refine cdF hk rfl ?_
    refine wp_skip (hK2 _ _ ?_)
    refine wp_seq_k fun K4 hK4 => ?_
    obtain ⟨v, hv, _⟩ := hJ.cell
    refine wp_region_ok (fun w => w.heap[bp]? = some (.cells (mkL v) 69 (0, 0))) [3, 1, 0, 0, 4, 4, 2, 2] mixed ?_
    have hM := hMx _ _ _ hJ (ext_drew w)
    have h_bv := ext_at (ext_drew w) h_bv
    have m_bv : ¬ MutC bp mkL 69 w.drew bv := fun hh => m_bv (hM.2 _ hh)
    have h_bn := ext_at (ext_drew w) h_bn
    have m_bn : ¬ MutC bp mkL 69 w.drew bn := fun hh => m_bn (hM.2 _ hh)
    have h_b7 := ext_at (ext_drew w) h_b7
    have m_b7 : ¬ MutC bp mkL 69 w.drew b7 := fun hh => m_b7 (hM.2 _ hh)
    have hF := hF.trans (Fra.ext (ext_drew w) hM.2)
    have hJ := hM.1
    clear hM
    have hS : (fun w => w.heap[bp]? = some (.cells (mkL v) 69 (0, 0))) w.drew := ext_at (ext_drew w) hv
    refine d3 0 hk rfl (by kernel_rfl) rfl rfl rfl rfl hS (fun w hS => r_ld1 hk rfl Tryd.underlying69 rfl hS) fun a hk => ?_
    refine d1 1 hk rfl (by kernel_rfl) rfl rfl rfl rfl (r_ld1 hk rfl Tryd.underlying27 rfl h_bv) fun a hk => ?_
    refine d0 2 hk rfl (by kernel_rfl) rfl rfl rfl rfl (fun _ => e_move hk rfl _) fun a hk => ?_
    refine d0 3 hk rfl (by kernel_rfl) rfl rfl rfl rfl (fun _ => e_move hk rfl _) fun a hk => ?_
    refine da4 4 hk rfl (by kernel_rfl) rfl rfl hS (a_call hk rfl rfl (c_fn hk rfl ok93) (c93 xs hL ad c a₀ b₀ _ (hR _ hJ) (hG _ hJ) hab hle) ?_)
    rintro e w ⟨rfl, hE⟩
    refine ⟨_, rfl, fun a hk => ⟨ext_at hE hS, ?_⟩⟩
    have hS := ext_at hE hS
    have hM := hMx _ _ _ hJ hE
    have h_bv := ext_at hE h_bv
    have m_bv : ¬ MutC bp mkL 69 w bv := fun hh => m_bv (hM.2 _ hh)
    have h_bn := ext_at hE h_bn
    have m_bn : ¬ MutC bp mkL 69 w bn := fun hh => m_bn (hM.2 _ hh)
    have h_b7 := ext_at hE h_b7
    have m_b7 : ¬ MutC bp mkL 69 w b7 := fun hh => m_b7 (hM.2 _ hh)
    have hF := hF.trans (Fra.ext hE hM.2)
    have hJ := hM.1
    clear hM
    clear hE
    refine da4 5 hk rfl (by kernel_rfl) rfl rfl hS (a_lit (cells := ((rootI xs a₀ b₀).map B).toArray) (sz := 16) (by_ := 16) hk rfl rfl Tryd.underlying69 el44 (by decide) (by decide) (lit44 _ rfl _ (by simp)) (by simp) fun a w bl hk G => ⟨ext_at G.ext hS, ?_⟩)
    have hS := ext_at G.ext hS
    have hM := hMx _ _ _ hJ G.ext
    have m_bl : ¬ MutC bp mkL 69 w bl := fun hh => absurd (hM0 _ _ _ hJ (hM.2 bl hh)) (Nat.not_lt.2 G.ge)
    have n_bv_bl : bv ≠ bl := G.ne h_bv
    have h_bv := ext_at G.ext h_bv
    have m_bv : ¬ MutC bp mkL 69 w bv := fun hh => m_bv (hM.2 _ hh)
    have n_bn_bl : bn ≠ bl := G.ne h_bn
    have h_bn := ext_at G.ext h_bn
    have m_bn : ¬ MutC bp mkL 69 w bn := fun hh => m_bn (hM.2 _ hh)
    have n_b7_bl : b7 ≠ bl := G.ne h_b7
    have h_b7 := ext_at G.ext h_b7
    have m_b7 : ¬ MutC bp mkL 69 w b7 := fun hh => m_b7 (hM.2 _ hh)
    have hg_bl : w0.heap.size ≤ bl := Nat.le_trans hF.size G.ge
    have hF := hF.trans (Fra.ext G.ext hM.2)
    have hJ := hM.1
    clear hM
    have h_bl := G.at_
    clear G
    obtain ⟨v2, hv2, hown⟩ := hJ.cell
    rw [hS] at hv2
    obtain rfl := hmk v v2 (by simpa using hv2)
    have hRl : Rd w (some ⟨bl, 0, none⟩) 1 1 16 ((rootI xs a₀ b₀).map B) := Rd.of_block h_bl (by simp) (Nat.le_refl _) fun i hi => by rw [Nat.zero_add]; simp
    refine da 6 hk rfl (by kernel_rfl) rfl rfl (a_app2 (news := (rootI xs a₀ b₀).map B) (sz := 16) (by_ := 16) hk rfl rfl hown rfl hRl (bytes_one _) Tryd.underlying69 el44 rfl (by decide) (by omega) (by omega) (by decide) hJ.size fun a w v1 hk hown2 hKp hloc => ?_)
    refine da 7 hk rfl (by kernel_rfl) rfl rfl (a_st1 hk rfl rfl (by obtain ⟨_, _, e, _⟩ := Rd.of_own hown2; rw [e]; rfl) sz69 (kept_lt hKp hown hJ.lt hS) fun a w hk W => ?_)
    obtain ⟨hJ1, hE⟩ := hJ.push hmk (d := rootI xs a₀ b₀) (by simp) hS hown2 hKp hloc W
    clear W hown hown2 hKp hloc hS hv2 hRl
    have m2 : ¬ MutC bp mkL 69 w bv := fun hh => m_bv (hE.mut_ _ (heap_lt h_bv) hh)
    have h_bv := hE.at_ m_bv h_bv
    have m_bv := m2
    clear m2
    have m2 : ¬ MutC bp mkL 69 w bn := fun hh => m_bn (hE.mut_ _ (heap_lt h_bn) hh)
    have h_bn := hE.at_ m_bn h_bn
    have m_bn := m2
    clear m2
    have m2 : ¬ MutC bp mkL 69 w b7 := fun hh => m_b7 (hE.mut_ _ (heap_lt h_b7) hh)
    have h_b7 := hE.at_ m_b7 h_b7
    have m_b7 := m2
    clear m2
    have m2 : ¬ MutC bp mkL 69 w bl := fun hh => m_bl (hE.mut_ _ (heap_lt h_bl) hh)
    have h_bl := hE.at_ m_bl h_bl
    have m_bl := m2
    clear m2
    have hF := hF.trans hE
    clear hJ
    have hJ := hJ1
    clear hE
    refine okFin (by kernel_rfl) (hK4 _ _ ?_)
    refine wp_seq_k fun K5 hK5 => ?_
    refine wp_region_lit ?_
    refine ls hk rfl rfl rfl (e_none132 hk _) fun a hk => ?_
    refine la hk rfl (a_storeB (cs' := #[]) hk rfl rfl (by simp) sz132 h_b7 rfl fun a w hk W => ?_)
    have hM := hMw _ _ _ _ _ hJ (Nat.le_trans hC hg_b7) m_b7 W
    have h_bv := W.keep n_bv_b7 h_bv
    have m_bv : ¬ MutC bp mkL 69 w bv := fun hh => m_bv (hM.2 _ hh)
    have h_bn := W.keep n_bn_b7 h_bn
    have m_bn : ¬ MutC bp mkL 69 w bn := fun hh => m_bn (hM.2 _ hh)
    have m_b7 : ¬ MutC bp mkL 69 w b7 := fun hh => m_b7 (hM.2 _ hh)
    have h_bl := W.keep (Ne.symm n_b7_bl) h_bl
    have m_bl : ¬ MutC bp mkL 69 w bl := fun hh => m_bl (hM.2 _ hh)
    have hF := hF.wrote W hg_b7 hM.2
    have hJ := hM.1
    clear hM
    have h_b7 := W.at_
    clear W
    refine ls hk rfl rfl rfl (e_assign hk rfl _) fun a hk => ?_
    refine lnil (hK5 _ _ ?_)
    refine wp_ret ?_
    exact retA1 hk rfl rfl rfl h_b7 Tryd.underlying132 rfl sz132 ⟨_, by simp [ho], hJ, hF, by simp [ho]⟩
  · have ho : farB n₀ a₀ b₀ = true := by unfold farB; simp; omega
    refine start 26 Tryd.func102 rfl rfl rfl fun a hk => ?_
    have hF := Fra.refl (MutC bp mkL 69) w0
    have hC := hJ.size
    have hMx : ∀ s w w', Col bp wB mkL 69 s w → Ext w w' → Col bp wB mkL 69 s w' ∧ ∀ k, MutC bp mkL 69 w' k → MutC bp mkL 69 w k := fun s w w' h hE => h.ext hE
    have hMw : ∀ s w w' b o, Col bp wB mkL 69 s w → wB.heap.size ≤ b → ¬ MutC bp mkL 69 w b → Wrote w w' b o → Col bp wB mkL 69 s w' ∧ ∀ k, MutC bp mkL 69 w' k → MutC bp mkL 69 w k := fun s w w' b o h hb hm hW => h.wrote hb hm hW
    have hM0 : ∀ s w k, Col bp wB mkL 69 s w → MutC bp mkL 69 w k → k < w.heap.size := fun s w k h hk => h.mut0 hmk k hk
    refine wp_seq_k fun K1 hK1 => ?_
    refine wp_region_lit ?_
    refine la hk rfl (a_alloc hk rfl zr132 fun a w b7 hk G => ?_)
    have hM := hMx _ _ _ hJ G.ext
    have m_b7 : ¬ MutC bp mkL 69 w b7 := fun hh => absurd (hM0 _ _ _ hJ (hM.2 b7 hh)) (Nat.not_lt.2 G.ge)
    have n_bv_b7 : bv ≠ b7 := G.ne h_bv
    have h_bv := ext_at G.ext h_bv
    have m_bv : ¬ MutC bp mkL 69 w bv := fun hh => m_bv (hM.2 _ hh)
    have n_bn_b7 : bn ≠ b7 := G.ne h_bn
    have h_bn := ext_at G.ext h_bn
    have m_bn : ¬ MutC bp mkL 69 w bn := fun hh => m_bn (hM.2 _ hh)
    have hg_b7 : w0.heap.size ≤ b7 := Nat.le_trans hF.size G.ge
    have hF := hF.trans (Fra.ext G.ext hM.2)
    have hJ := hM.1
    clear hM
    have h_b7 := G.at_
    clear G
    refine ls hk rfl rfl rfl (e_assign hk rfl _) fun a hk => ?_
    refine lnil (hK1 _ _ ?_)
    refine wp_seq_k fun K2 hK2 => ?_
    refine wp_seq_k fun K3 hK3 => ?_
    refine wp_region_lit ?_
    refine ls hk rfl rfl rfl (e_move hk rfl _) fun a hk => ?_
    refine ls hk rfl rfl rfl (r_ld1 hk rfl Tryd.underlying3 rfl h_bn) fun a hk => ?_
    refine ls hk rfl rfl rfl (e_gtr (b := true) hk rfl rfl (decide_eq_true (by omega)) _) fun a hk => ?_
    refine ls hk rfl rfl rfl (e_move hk rfl _) fun a hk => ?_
    refine ls hk rfl rfl rfl (e_move hk rfl _) fun a hk => ?_
    refine ls hk rfl rfl rfl (r_ld1 hk rfl Tryd.underlying3 rfl h_bn) fun a hk => ?_
    refine ls hk rfl rfl rfl (e_lss (b := false) hk rfl rfl (decide_eq_false (by omega)) _) fun a hk => ?_
    refine ls hk rfl rfl rfl (e_pickT hk rfl rfl _) fun a hk => ?_
    refine lnil (hK3 _ _ ?_)
    refine cdF hk rfl ?_
    refine wp_skip (hK2 _ _ ?_)
    refine wp_seq_k fun K4 hK4 => ?_
    obtain ⟨v, hv, _⟩ := hJ.cell
    refine wp_region_ok (fun w => w.heap[bp]? = some (.cells (mkL v) 69 (0, 0))) [3, 1, 0, 0, 4, 4, 2, 2] mixed ?_
    have hM := hMx _ _ _ hJ (ext_drew w)
    have h_bv := ext_at (ext_drew w) h_bv
    have m_bv : ¬ MutC bp mkL 69 w.drew bv := fun hh => m_bv (hM.2 _ hh)
    have h_bn := ext_at (ext_drew w) h_bn
    have m_bn : ¬ MutC bp mkL 69 w.drew bn := fun hh => m_bn (hM.2 _ hh)
    have h_b7 := ext_at (ext_drew w) h_b7
    have m_b7 : ¬ MutC bp mkL 69 w.drew b7 := fun hh => m_b7 (hM.2 _ hh)
    have hF := hF.trans (Fra.ext (ext_drew w) hM.2)
    have hJ := hM.1
    clear hM
    have hS : (fun w => w.heap[bp]? = some (.cells (mkL v) 69 (0, 0))) w.drew := ext_at (ext_drew w) hv
    refine d3 0 hk rfl (by kernel_rfl) rfl rfl rfl rfl hS (fun w hS => r_ld1 hk rfl Tryd.underlying69 rfl hS) fun a hk => ?_
    refine d1 1 hk rfl (by kernel_rfl) rfl rfl rfl rfl (r_ld1 hk rfl Tryd.underlying27 rfl h_bv) fun a hk => ?_
    refine d0 2 hk rfl (by kernel_rfl) rfl rfl rfl rfl (fun _ => e_move hk rfl _) fun a hk => ?_
    refine d0 3 hk rfl (by kernel_rfl) rfl rfl rfl rfl (fun _ => e_move hk rfl _) fun a hk => ?_
    refine da4 4 hk rfl (by kernel_rfl) rfl rfl hS (a_call hk rfl rfl (c_fn hk rfl ok93) (c93 xs hL ad c a₀ b₀ _ (hR _ hJ) (hG _ hJ) hab hle) ?_)
    rintro e w ⟨rfl, hE⟩
    refine ⟨_, rfl, fun a hk => ⟨ext_at hE hS, ?_⟩⟩
    have hS := ext_at hE hS
    have hM := hMx _ _ _ hJ hE
    have h_bv := ext_at hE h_bv
    have m_bv : ¬ MutC bp mkL 69 w bv := fun hh => m_bv (hM.2 _ hh)
    have h_bn := ext_at hE h_bn
    have m_bn : ¬ MutC bp mkL 69 w bn := fun hh => m_bn (hM.2 _ hh)
    have h_b7 := ext_at hE h_b7
    have m_b7 : ¬ MutC bp mkL 69 w b7 := fun hh => m_b7 (hM.2 _ hh)
    have hF := hF.trans (Fra.ext hE hM.2)
    have hJ := hM.1
    clear hM
    clear hE
    refine da4 5 hk rfl (by kernel_rfl) rfl rfl hS (a_lit (cells := ((rootI xs a₀ b₀).map B).toArray) (sz := 16) (by_ := 16) hk rfl rfl Tryd.underlying69 el44 (by decide) (by decide) (lit44 _ rfl _ (by simp)) (by simp) fun a w bl hk G => ⟨ext_at G.ext hS, ?_⟩)
    have hS := ext_at G.ext hS
    have hM := hMx _ _ _ hJ G.ext
    have m_bl : ¬ MutC bp mkL 69 w bl := fun hh => absurd (hM0 _ _ _ hJ (hM.2 bl hh)) (Nat.not_lt.2 G.ge)
    have n_bv_bl : bv ≠ bl := G.ne h_bv
    have h_bv := ext_at G.ext h_bv
    have m_bv : ¬ MutC bp mkL 69 w bv := fun hh => m_bv (hM.2 _ hh)
    have n_bn_bl : bn ≠ bl := G.ne h_bn
    have h_bn := ext_at G.ext h_bn
    have m_bn : ¬ MutC bp mkL 69 w bn := fun hh => m_bn (hM.2 _ hh)
    have n_b7_bl : b7 ≠ bl := G.ne h_b7
    have h_b7 := ext_at G.ext h_b7
    have m_b7 : ¬ MutC bp mkL 69 w b7 := fun hh => m_b7 (hM.2 _ hh)
    have hg_bl : w0.heap.size ≤ bl := Nat.le_trans hF.size G.ge
    have hF := hF.trans (Fra.ext G.ext hM.2)
    have hJ := hM.1
    clear hM
    have h_bl := G.at_
    clear G
    obtain ⟨v2, hv2, hown⟩ := hJ.cell
    rw [hS] at hv2
    obtain rfl := hmk v v2 (by simpa using hv2)
    have hRl : Rd w (some ⟨bl, 0, none⟩) 1 1 16 ((rootI xs a₀ b₀).map B) := Rd.of_block h_bl (by simp) (Nat.le_refl _) fun i hi => by rw [Nat.zero_add]; simp
    refine da 6 hk rfl (by kernel_rfl) rfl rfl (a_app2 (news := (rootI xs a₀ b₀).map B) (sz := 16) (by_ := 16) hk rfl rfl hown rfl hRl (bytes_one _) Tryd.underlying69 el44 rfl (by decide) (by omega) (by omega) (by decide) hJ.size fun a w v1 hk hown2 hKp hloc => ?_)
    refine da 7 hk rfl (by kernel_rfl) rfl rfl (a_st1 hk rfl rfl (by obtain ⟨_, _, e, _⟩ := Rd.of_own hown2; rw [e]; rfl) sz69 (kept_lt hKp hown hJ.lt hS) fun a w hk W => ?_)
    obtain ⟨hJ1, hE⟩ := hJ.push hmk (d := rootI xs a₀ b₀) (by simp) hS hown2 hKp hloc W
    clear W hown hown2 hKp hloc hS hv2 hRl
    have m2 : ¬ MutC bp mkL 69 w bv := fun hh => m_bv (hE.mut_ _ (heap_lt h_bv) hh)
    have h_bv := hE.at_ m_bv h_bv
    have m_bv := m2
    clear m2
    have m2 : ¬ MutC bp mkL 69 w bn := fun hh => m_bn (hE.mut_ _ (heap_lt h_bn) hh)
    have h_bn := hE.at_ m_bn h_bn
    have m_bn := m2
    clear m2
    have m2 : ¬ MutC bp mkL 69 w b7 := fun hh => m_b7 (hE.mut_ _ (heap_lt h_b7) hh)
    have h_b7 := hE.at_ m_b7 h_b7
    have m_b7 := m2
    clear m2
    have m2 : ¬ MutC bp mkL 69 w bl := fun hh => m_bl (hE.mut_ _ (heap_lt h_bl) hh)
    have h_bl := hE.at_ m_bl h_bl
    have m_bl := m2
    clear m2
    have hF := hF.trans hE
    clear hJ
    have hJ := hJ1
    clear hE
    refine okFin (by kernel_rfl) (hK4 _ _ ?_)
    refine wp_seq_k fun K5 hK5 => ?_
    refine wp_region_lit ?_
    refine ls hk rfl rfl rfl (e_none132 hk _) fun a hk => ?_
    refine la hk rfl (a_storeB (cs' := #[]) hk rfl rfl (by simp) sz132 h_b7 rfl fun a w hk W => ?_)
    have hM := hMw _ _ _ _ _ hJ (Nat.le_trans hC hg_b7) m_b7 W
    have h_bv := W.keep n_bv_b7 h_bv
    have m_bv : ¬ MutC bp mkL 69 w bv := fun hh => m_bv (hM.2 _ hh)
    have h_bn := W.keep n_bn_b7 h_bn
    have m_bn : ¬ MutC bp mkL 69 w bn := fun hh => m_bn (hM.2 _ hh)
    have m_b7 : ¬ MutC bp mkL 69 w b7 := fun hh => m_b7 (hM.2 _ hh)
    have h_bl := W.keep (Ne.symm n_b7_bl) h_bl
    have m_bl : ¬ MutC bp mkL 69 w bl := fun hh => m_bl (hM.2 _ hh)
    have hF := hF.wrote W hg_b7 hM.2
    have hJ := hM.1
    clear hM
    have h_b7 := W.at_
    clear W
    refine ls hk rfl rfl rfl (e_assign hk rfl _) fun a hk => ?_
    refine lnil (hK5 _ _ ?_)
    refine wp_ret ?_
    exact retA1 hk rfl rfl rfl h_b7 Tryd.underlying132 rfl sz132 ⟨_, by simp [ho], hJ, hF, by simp [ho]⟩
  · have ho : farB n₀ a₀ b₀ = false := by unfold farB; simp; omega
    refine start 26 Tryd.func102 rfl rfl rfl fun a hk => ?_
    have hF := Fra.refl (MutC bp mkL 69) w0
    have hC := hJ.size
    have hMx : ∀ s w w', Col bp wB mkL 69 s w → Ext w w' → Col bp wB mkL 69 s w' ∧ ∀ k, MutC bp mkL 69 w' k → MutC bp mkL 69 w k := fun s w w' h hE => h.ext hE
    have hMw : ∀ s w w' b o, Col bp wB mkL 69 s w → wB.heap.size ≤ b → ¬ MutC bp mkL 69 w b → Wrote w w' b o → Col bp wB mkL 69 s w' ∧ ∀ k, MutC bp mkL 69 w' k → MutC bp mkL 69 w k := fun s w w' b o h hb hm hW => h.wrote hb hm hW
    have hM0 : ∀ s w k, Col bp wB mkL 69 s w → MutC bp mkL 69 w k → k < w.heap.size := fun s w k h hk => h.mut0 hmk k hk
    refine wp_seq_k fun K1 hK1 => ?_
    refine wp_region_lit ?_
    refine la hk rfl (a_alloc hk rfl zr132 fun a w b7 hk G => ?_)
    have hM := hMx _ _ _ hJ G.ext
    have m_b7 : ¬ MutC bp mkL 69 w b7 := fun hh => absurd (hM0 _ _ _ hJ (hM.2 b7 hh)) (Nat.not_lt.2 G.ge)
    have n_bv_b7 : bv ≠ b7 := G.ne h_bv
    have h_bv := ext_at G.ext h_bv
    have m_bv : ¬ MutC bp mkL 69 w bv := fun hh => m_bv (hM.2 _ hh)
    have n_bn_b7 : bn ≠ b7 := G.ne h_bn
    have h_bn := ext_at G.ext h_bn
    have m_bn : ¬ MutC bp mkL 69 w bn := fun hh => m_bn (hM.2 _ hh)
    have hg_b7 : w0.heap.size ≤ b7 := Nat.le_trans hF.size G.ge
    have hF := hF.trans (Fra.ext G.ext hM.2)
    have hJ := hM.1
    clear hM
    have h_b7 := G.at_
    clear G
    refine ls hk rfl rfl rfl (e_assign hk rfl _) fun a hk => ?_
    refine lnil (hK1 _ _ ?_)
    refine wp_seq_k fun K2 hK2 => ?_
    refine wp_seq_k fun K3 hK3 => ?_
    refine wp_region_lit ?_
    refine ls hk rfl rfl rfl (e_move hk rfl _) fun a hk => ?_
    refine ls hk rfl rfl rfl (r_ld1 hk rfl Tryd.underlying3 rfl h_bn) fun a hk => ?_
    refine ls hk rfl rfl rfl (e_gtr (b := true) hk rfl rfl (decide_eq_true (by omega)) _) fun a hk => ?_
    refine ls hk rfl rfl rfl (e_move hk rfl _) fun a hk => ?_
    refine ls hk rfl rfl rfl (e_move hk rfl _) fun a hk => ?_
    refine ls hk rfl rfl rfl (r_ld1 hk rfl Tryd.underlying3 rfl h_bn) fun a hk => ?_
    refine ls hk rfl rfl rfl (e_lss (b := true) hk rfl rfl (decide_eq_true (by omega)) _) fun a hk => ?_
    refine ls hk rfl rfl rfl (e_pickT hk rfl rfl _) fun a hk => ?_
    refine lnil (hK3 _ _ ?_)
    refine cdT hk rfl ?_
    refine wp_seq_k fun K4 hK4 => ?_
    refine wp_region_lit ?_
    refine ls hk rfl rfl rfl (e_none132 hk _) fun a hk => ?_
    refine la hk rfl (a_storeB (cs' := #[]) hk rfl rfl (by simp) sz132 h_b7 rfl fun a w hk W => ?_)
    have hM := hMw _ _ _ _ _ hJ (Nat.le_trans hC hg_b7) m_b7 W
    have h_bv := W.keep n_bv_b7 h_bv
    have m_bv : ¬ MutC bp mkL 69 w bv := fun hh => m_bv (hM.2 _ hh)
    have h_bn := W.keep n_bn_b7 h_bn
    have m_bn : ¬ MutC bp mkL 69 w bn := fun hh => m_bn (hM.2 _ hh)
    have m_b7 : ¬ MutC bp mkL 69 w b7 := fun hh => m_b7 (hM.2 _ hh)
    have hF := hF.wrote W hg_b7 hM.2
    have hJ := hM.1
    clear hM
    have h_b7 := W.at_
    clear W
    refine ls hk rfl rfl rfl (e_assign hk rfl _) fun a hk => ?_
    refine lnil (hK4 _ _ ?_)
    refine wp_ret ?_
    simp only [then_ret]
    exact retA1 hk rfl rfl rfl h_b7 Tryd.underlying132 rfl sz132 ⟨_, by simp [ho], hJ, hF, by simp [ho]⟩

end Go.Proofs.YtidfbboalbchiaaDoor
