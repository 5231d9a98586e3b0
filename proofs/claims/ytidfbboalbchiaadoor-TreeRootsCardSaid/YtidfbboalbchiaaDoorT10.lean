/- Part 10 of the texts that a claim's last texts stand on: A34. Conditions: those that each theorem names. -/
import Derived.Test.YtidfbboalbchiaaDoorT9
namespace Go.Proofs.YtidfbboalbchiaaDoor
open Go Go.RowKit

theorem or4 (p q r : Prop) : ¬ p ∨ (p ∧ ¬ q) ∨ (p ∧ q ∧ ¬ r) ∨ (p ∧ q ∧ r) := by by_cases p <;> by_cases q <;> by_cases r <;> simp [*]
/-- What Extends answers. -/
def extR (old rt : List UInt8) (n₀ m₀ : Int) (l : List (List UInt8)) : Int :=
  if n₀ < 0 ∨ n₀ > m₀ ∨ m₀ > 1073741824 then 1
  else if m₀ = 0 then (if l.length = 1 ∧ l.getD 0 zD = ofD 2 [] ∧ old = l.getD 0 zD ∧ rt = l.getD 0 zD then 0 else 15)
  else if (chkS (farB n₀.toNat) (fun _ => zD) l 0 m₀.toNat 0).2 = l.length ∧ (chkS (farB n₀.toNat) (fun _ => zD) l 0 m₀.toNat 0).1 = rt ∧ (if n₀ = 0 then ofD 2 [] else oldC (farB n₀.toNat) l n₀.toNat 0 m₀.toNat 0) = old then 0 else 15
theorem ext_bad {old rt : List UInt8} {n₀ m₀ : Int} {l : List (List UInt8)} (h : n₀ < 0 ∨ n₀ > m₀ ∨ m₀ > 1073741824) : extR old rt n₀ m₀ l = 1 := by unfold extR; rw [if_pos h]
theorem ext_none {old rt : List UInt8} {n m : Nat} {l : List (List UInt8)} (h : n ≤ m) (hm : m = 0) : extR old rt n m l = if l.length = 1 ∧ l.getD 0 zD = ofD 2 [] ∧ old = l.getD 0 zD ∧ rt = l.getD 0 zD then 0 else 15 := by
  unfold extR; rw [if_neg (by omega), if_pos (by omega)]
theorem ext_some {old rt : List UInt8} {n m : Nat} {l : List (List UInt8)} (h : n ≤ m) (hm : m ≠ 0) (hM : m ≤ 1073741824) : extR old rt n m l = if (chkS (farB n) (fun _ => zD) l 0 m 0).2 = l.length ∧ (chkS (farB n) (fun _ => zD) l 0 m 0).1 = rt ∧ (if n = 0 then ofD 2 [] else (oldC (farB n) l n 0 m 0)) = old then 0 else 15 := by
  unfold extR
  rw [if_neg (by omega), if_neg (by omega)]
  simp only [Int.toNat_natCast]
  by_cases h0 : n = 0
  · rw [if_pos (by omega : (n : Int) = 0), if_pos h0]
  · rw [if_neg (by omega : ¬ (n : Int) = 0), if_neg h0]
/-- The walk of Extends. -/
theorem w112 (l : List (List UInt8)) (n m : Nat) (hm : m ≤ 1073741824) (h0 : 0 < m) (adl : Option Addr) (cl bn bq bt : Nat) (w : World) (h_bt : w.heap[bt]? = some (.cells (tkC adl cl l 0) 141 (0, 0))) (hRl : Rdg w adl l.length cl l) (hne : ∀ b o, adl = some ⟨b, o, none⟩ → b ≠ bt) (hln : l.length ≤ 1152921504606846976)
    (h_bn : w.heap[bn]? = some (.cells #[I (n : Nat)] 3 (0, 0))) (h_bq : w.heap[bq]? = some (.cells #[.pointer (some ⟨bt, 0, none⟩)] 139 (0, 0))) (n_bn_bt : bn ≠ bt) (n_bq_bt : bq ≠ bt) (hG : ∀ w', Fra (fun _ k => k = bt) w w' → GH w') :
    Calls Tryd.prog 112 #[I (0 : Nat), I (m : Nat), .func (.func 113) #[] #[.pointer (some ⟨bn, 0, none⟩), .pointer (some ⟨bq, 0, none⟩)], .func (.func 114) #[] #[]] w fun e w' => ∃ x c', e = .returned (.agg (gc x)) ∧ x.ok ∧ Fra (fun _ k => k = bt) w w' ∧ w'.heap[bt]? = some (.cells (tkC adl cl l c') 141 (0, 0)) ∧
      x.root = (chkS (farB n) (fun _ => zD) l 0 m 0).1 ∧ c' = (chkS (farB n) (fun _ => zD) l 0 m 0).2 ∧ (0 < n → x.old = (oldC (farB n) l n 0 m 0)) := by
  have hlt := heap_lt h_bt
  refine (c112 (S := Nat) (X := Gr) gc Gr.ok gc_enc gjn (fun _ k => k = bt) (fun s w' => Fra (fun _ k => k = bt) w w' ∧ w'.heap[bt]? = some (.cells (tkC adl cl l s) 141 (0, 0))) (fun a b => farB n a b = false)
    (fun a b s x s' => a < b → x.root = (chkS (farB n) (fun _ => zD) l a b s).1 ∧ s' = (chkS (farB n) (fun _ => zD) l a b s).2 ∧ x.has = decide (a < n) ∧ (a < n → x.old = oldC (farB n) l n a b s)) (fun a b s => a < b ∧ s ≤ a) w.heap.size m (by omega) 113 114 [.pointer (some ⟨bn, 0, none⟩), .pointer (some ⟨bq, 0, none⟩)] [] ok113 ok114
    (fun s w1 w2 h hE => ⟨⟨h.1.trans (Fra.ext hE (fun _ h => h)), ext_at hE h.2⟩, fun _ h => h⟩)
    (fun s w1 w2 b o h hb hm hW => ⟨⟨h.1.wrote hW hb (fun _ h => h), hW.keep (fun e => hm e.symm) h.2⟩, fun _ h => h⟩)
    (fun s w1 k h hk => by rw [hk]; exact heap_lt h.2)
    (fun a b s h h2 _ => ⟨by have := hlf_pos (b - a); omega, h.2⟩) (fun a b s x s1 h h2 _ hs => ?_)
    (fun a b s w1 hab hbl hP hJ _ => (c113 l n adl cl bn bq bt a b s w1 hJ.2 (hRl.fra hJ.1 hne) hne hln (by omega) (hJ.1.at_ n_bn_bt h_bn) (hJ.1.at_ n_bq_bt h_bq) n_bn_bt n_bq_bt).mono
      fun e w' ⟨x, bb, c', he, hx, hF, hbt, h1, h2⟩ => ⟨x, bb, c', he, hx, ⟨hJ.1.trans hF, hbt⟩, hF, fun hb _ => ?_, fun hb => ⟨(h2 hb).1, ?_, (h2 hb).2⟩⟩)
    (fun x y s w1 hx hy hJ _ => (c114 x y hx hy w1 (hG w1 hJ.1)).mono fun e w' ⟨he, hE⟩ => ⟨he, gjn_ok x y hx, ⟨hJ.1.trans (Fra.ext hE (fun _ h => h)), ext_at hE hJ.2⟩, Fra.ext hE (fun _ h => h)⟩)
    (fun a b s x s1 y s2 hG h2 hx hy hab => ?_) _ 0 m 0 w rfl h0 (Nat.le_refl _) ⟨h0, Nat.le_refl _⟩ ⟨Fra.refl _ _, h_bt⟩ (Nat.le_refl _)).mono fun e w' ⟨x, s', he, hx, hJ, _, hs⟩ => ⟨x, s', he, hx, hJ.1, hJ.2, (hs h0).1, (hs h0).2.1, (hs h0).2.2.2⟩
  · have h3 := hlf_lt h2
    have h4 := hlf_pos (b - a)
    have h5 := (hs (by omega)).2.1
    refine ⟨by omega, ?_⟩
    have h6 := chk_count (farB n) (fun _ => zD) l a (a + hlf (b - a)) (by omega) s
    have h7 := stops_len (farB n) a (a + hlf (b - a)) (by omega)
    omega
  · obtain ⟨ho, rfl, rfl⟩ := h1 hb
    refine ⟨by rw [chk_stop ho], by rw [chk_stop ho], ?_, fun _ => by rw [old_stop ho]⟩
    unfold farB at ho
    simp at ho
    exact decide_eq_decide.2 (by omega)
  · have := (h2 hb).2
    unfold farB at this
    simp at this
    omega
  · have h3 := hlf_lt h2
    have h4 := hlf_pos (b - a)
    obtain ⟨x1, x2, x3, x4⟩ := hx (by omega)
    obtain ⟨y1, y2, y3, y4⟩ := hy (by omega)
    have hn : a < n ∧ n < b := by unfold farB at hG; simp at hG; omega
    have hold : (gjn x y).old = oldC (farB n) l n a b s := by
      show (if y.has then nodeS x.old y.old else x.old) = _
      rw [y3, x4 hn.1]
      by_cases hc : a + hlf (b - a) < n
      · rw [if_pos (decide_eq_true hc), y4 hc, old_both hG h2 (by omega), ← x2]
        have hst : farB n a (a + hlf (b - a)) = true := by unfold farB; simp; omega
        rw [chk_stop hst, old_stop hst]
      · rw [if_neg (by simp; omega), old_left hG h2 (by omega)]
    refine ⟨?_, ?_, x3, fun _ => hold⟩
    · rw [chk_more hG h2, ← x2, ← x1, ← y1]; rfl
    · rw [chk_more hG h2, ← x2]; exact y2

set_option maxRecDepth 4000 in
set_option maxHeartbeats 1000000 in
theorem c57 (old rt : List UInt8) (hold : old.length = 16) (hrt : rt.length = 16) (n₀ m₀ : Int) (l : List (List UInt8)) (adl : Option Addr) (cl : Nat) (w0 : World) (hRl : Rdg w0 adl l.length cl l) (hol : ∀ b o, adl = some ⟨b, o, none⟩ → b < w0.heap.size) (hln : l.length ≤ 1152921504606846976) (hG : GH w0) (hn64 : is64 n₀) (hm64 : is64 m₀) :
    Calls Tryd.prog 57 #[D old, D rt, I n₀, I m₀, .slice adl l.length cl] w0 fun e w' => e = .returned (I (extR old rt n₀ m₀ l)) ∧ Ext w0 w' := by
  obtain ⟨hn1, hn2⟩ := hn64
  obtain ⟨hm1, hm2⟩ := hm64
  rcases (by omega : n₀ < 0 ∨ (¬ n₀ < 0 ∧ n₀ > m₀) ∨ (¬ n₀ < 0 ∧ ¬ n₀ > m₀ ∧ m₀ > 1073741824) ∨ (¬ n₀ < 0 ∧ ¬ n₀ > m₀ ∧ ¬ m₀ > 1073741824 ∧ m₀ = 0 ∧ ¬ l.length = 1) ∨ (¬ n₀ < 0 ∧ ¬ n₀ > m₀ ∧ ¬ m₀ > 1073741824 ∧ m₀ = 0 ∧ l.length = 1) ∨ (¬ n₀ < 0 ∧ ¬ n₀ > m₀ ∧ ¬ m₀ > 1073741824 ∧ m₀ ≠ 0)) with hc | hc | hc | ⟨hc, hc2, hc3, hm0, hl1⟩ | ⟨hc, hc2, hc3, hm0, hl1⟩ | hc
  · refine start 75 Tryd.func57 rfl rfl rfl fun a hk => ?_
    have hB : Ext w0 w0 := Below.refl _ _
    refine wp_seq_k fun K1 hK1 => ?_
    refine wp_region_lit ?_
    refine la hk rfl (a_box hk rfl rfl fun a w b5 hk G => ?_)
    have hg_b5 : w0.heap.size ≤ b5 := Nat.le_trans hB.size G.ge
    have hB := ext_trans hB G.ext
    have h_b5 := G.at_
    clear G
    refine la hk rfl (a_box hk rfl rfl fun a w b6 hk G => ?_)
    have n_b5_b6 : b5 ≠ b6 := G.ne h_b5
    have hg_b6 : w0.heap.size ≤ b6 := Nat.le_trans hB.size G.ge
    have h_b5 := ext_at G.ext h_b5
    have hB := ext_trans hB G.ext
    have h_b6 := G.at_
    clear G
    refine la hk rfl (a_box hk rfl rfl fun a w b7 hk G => ?_)
    have n_b5_b7 : b5 ≠ b7 := G.ne h_b5
    have n_b6_b7 : b6 ≠ b7 := G.ne h_b6
    have hg_b7 : w0.heap.size ≤ b7 := Nat.le_trans hB.size G.ge
    have h_b5 := ext_at G.ext h_b5
    have h_b6 := ext_at G.ext h_b6
    have hB := ext_trans hB G.ext
    have h_b7 := G.at_
    clear G
    refine ls hk rfl rfl rfl (e_assign hk rfl _) fun a hk => ?_
    refine lnil (hK1 _ _ ?_)
    refine wp_seq_k fun K2 hK2 => ?_
    refine wp_seq_k fun K3 hK3 => ?_
    refine wp_region_lit ?_
    refine ls hk rfl rfl rfl (r_ld1 hk rfl Tryd.underlying3 rfl h_b7) fun a hk => ?_
    refine ls hk rfl rfl rfl (e_lss (b := true) hk rfl rfl (decide_eq_true (by omega)) _) fun a hk => ?_
    refine ls hk rfl rfl rfl (e_move hk rfl _) fun a hk => ?_
    refine lno hk rfl rfl rfl fun a hk => ?_
    refine lno hk rfl rfl rfl fun a hk => ?_
    refine lno hk rfl rfl rfl fun a hk => ?_
    refine ls hk rfl rfl rfl (e_pickT hk rfl rfl _) fun a hk => ?_
    refine ls hk rfl rfl rfl (e_move hk rfl _) fun a hk => ?_
    refine lno hk rfl rfl rfl fun a hk => ?_
    refine lno hk rfl rfl rfl fun a hk => ?_
    refine ls hk rfl rfl rfl (e_pickT hk rfl rfl _) fun a hk => ?_
    refine lnil (hK3 _ _ ?_)
    refine cdT hk rfl ?_
    refine wp_seq_k fun K4 hK4 => ?_
    refine wp_region_lit ?_
    refine ls hk rfl rfl rfl (e_assign hk rfl _) fun a hk => ?_
    refine lnil (hK4 _ _ ?_)
    refine wp_ret ?_
    simp only [then_ret]
    exact ret1 hk rfl rfl ⟨by rw [ext_bad (by omega)], hB⟩
  · refine start 75 Tryd.func57 rfl rfl rfl fun a hk => ?_
    have hB : Ext w0 w0 := Below.refl _ _
    refine wp_seq_k fun K1 hK1 => ?_
    refine wp_region_lit ?_
    refine la hk rfl (a_box hk rfl rfl fun a w b5 hk G => ?_)
    have hg_b5 : w0.heap.size ≤ b5 := Nat.le_trans hB.size G.ge
    have hB := ext_trans hB G.ext
    have h_b5 := G.at_
    clear G
    refine la hk rfl (a_box hk rfl rfl fun a w b6 hk G => ?_)
    have n_b5_b6 : b5 ≠ b6 := G.ne h_b5
    have hg_b6 : w0.heap.size ≤ b6 := Nat.le_trans hB.size G.ge
    have h_b5 := ext_at G.ext h_b5
    have hB := ext_trans hB G.ext
    have h_b6 := G.at_
    clear G
    refine la hk rfl (a_box hk rfl rfl fun a w b7 hk G => ?_)
    have n_b5_b7 : b5 ≠ b7 := G.ne h_b5
    have n_b6_b7 : b6 ≠ b7 := G.ne h_b6
    have hg_b7 : w0.heap.size ≤ b7 := Nat.le_trans hB.size G.ge
    have h_b5 := ext_at G.ext h_b5
    have h_b6 := ext_at G.ext h_b6
    have hB := ext_trans hB G.ext
    have h_b7 := G.at_
    clear G
    refine ls hk rfl rfl rfl (e_assign hk rfl _) fun a hk => ?_
    refine lnil (hK1 _ _ ?_)
    refine wp_seq_k fun K2 hK2 => ?_
    refine wp_seq_k fun K3 hK3 => ?_
    refine wp_region_lit ?_
    refine ls hk rfl rfl rfl (r_ld1 hk rfl Tryd.underlying3 rfl h_b7) fun a hk => ?_
    refine ls hk rfl rfl rfl (e_lss (b := false) hk rfl rfl (decide_eq_false (by omega)) _) fun a hk => ?_
    refine ls hk rfl rfl rfl (e_move hk rfl _) fun a hk => ?_
    refine ls hk rfl rfl rfl (r_ld1 hk rfl Tryd.underlying3 rfl h_b7) fun a hk => ?_
    refine ls hk rfl rfl rfl (e_move hk rfl _) fun a hk => ?_
    refine ls hk rfl rfl rfl (e_gtr (b := true) hk rfl rfl (decide_eq_true (by omega)) _) fun a hk => ?_
    refine ls hk rfl rfl rfl (e_pickF hk rfl rfl _) fun a hk => ?_
    refine ls hk rfl rfl rfl (e_move hk rfl _) fun a hk => ?_
    refine lno hk rfl rfl rfl fun a hk => ?_
    refine lno hk rfl rfl rfl fun a hk => ?_
    refine ls hk rfl rfl rfl (e_pickT hk rfl rfl _) fun a hk => ?_
    refine lnil (hK3 _ _ ?_)
    refine cdT hk rfl ?_
    refine wp_seq_k fun K4 hK4 => ?_
    refine wp_region_lit ?_
    refine ls hk rfl rfl rfl (e_assign hk rfl _) fun a hk => ?_
    refine lnil (hK4 _ _ ?_)
    refine wp_ret ?_
    simp only [then_ret]
    exact ret1 hk rfl rfl ⟨by rw [ext_bad (by omega)], hB⟩
  · refine start 75 Tryd.func57 rfl rfl rfl fun a hk => ?_
    have hB : Ext w0 w0 := Below.refl _ _
    refine wp_seq_k fun K1 hK1 => ?_
    refine wp_region_lit ?_
    refine la hk rfl (a_box hk rfl rfl fun a w b5 hk G => ?_)
    have hg_b5 : w0.heap.size ≤ b5 := Nat.le_trans hB.size G.ge
    have hB := ext_trans hB G.ext
    have h_b5 := G.at_
    clear G
    refine la hk rfl (a_box hk rfl rfl fun a w b6 hk G => ?_)
    have n_b5_b6 : b5 ≠ b6 := G.ne h_b5
    have hg_b6 : w0.heap.size ≤ b6 := Nat.le_trans hB.size G.ge
    have h_b5 := ext_at G.ext h_b5
    have hB := ext_trans hB G.ext
    have h_b6 := G.at_
    clear G
    refine la hk rfl (a_box hk rfl rfl fun a w b7 hk G => ?_)
    have n_b5_b7 : b5 ≠ b7 := G.ne h_b5
    have n_b6_b7 : b6 ≠ b7 := G.ne h_b6
    have hg_b7 : w0.heap.size ≤ b7 := Nat.le_trans hB.size G.ge
    have h_b5 := ext_at G.ext h_b5
    have h_b6 := ext_at G.ext h_b6
    have hB := ext_trans hB G.ext
    have h_b7 := G.at_
    clear G
    refine ls hk rfl rfl rfl (e_assign hk rfl _) fun a hk => ?_
    refine lnil (hK1 _ _ ?_)
    refine wp_seq_k fun K2 hK2 => ?_
    refine wp_seq_k fun K3 hK3 => ?_
    refine wp_region_lit ?_
    refine ls hk rfl rfl rfl (r_ld1 hk rfl Tryd.underlying3 rfl h_b7) fun a hk => ?_
    refine ls hk rfl rfl rfl (e_lss (b := false) hk rfl rfl (decide_eq_false (by omega)) _) fun a hk => ?_
    refine ls hk rfl rfl rfl (e_move hk rfl _) fun a hk => ?_
    refine ls hk rfl rfl rfl (r_ld1 hk rfl Tryd.underlying3 rfl h_b7) fun a hk => ?_
    refine ls hk rfl rfl rfl (e_move hk rfl _) fun a hk => ?_
    refine ls hk rfl rfl rfl (e_gtr (b := false) hk rfl rfl (decide_eq_false (by omega)) _) fun a hk => ?_
    refine ls hk rfl rfl rfl (e_pickF hk rfl rfl _) fun a hk => ?_
    refine ls hk rfl rfl rfl (e_move hk rfl _) fun a hk => ?_
    refine ls hk rfl rfl rfl (e_move hk rfl _) fun a hk => ?_
    refine ls hk rfl rfl rfl (e_gtr (b := true) hk rfl rfl (decide_eq_true (by omega)) _) fun a hk => ?_
    refine ls hk rfl rfl rfl (e_pickF hk rfl rfl _) fun a hk => ?_
    refine lnil (hK3 _ _ ?_)
    refine cdT hk rfl ?_
    refine wp_seq_k fun K4 hK4 => ?_
    refine wp_region_lit ?_
    refine ls hk rfl rfl rfl (e_assign hk rfl _) fun a hk => ?_
    refine lnil (hK4 _ _ ?_)
    refine wp_ret ?_
    simp only [then_ret]
    exact ret1 hk rfl rfl ⟨by rw [ext_bad (by omega)], hB⟩
  · obtain ⟨n, rfl⟩ : ∃ k : Nat, n₀ = k := ⟨n₀.toNat, by omega⟩
    obtain ⟨m, rfl⟩ : ∃ k : Nat, m₀ = k := ⟨m₀.toNat, by omega⟩
    have hz : extR old rt n m l = 15 := by rw [ext_none (by omega) (by omega), if_neg (fun h => hl1 h.1)]
    refine start 75 Tryd.func57 rfl rfl rfl fun a hk => ?_
    have hB : Ext w0 w0 := Below.refl _ _
    refine wp_seq_k fun K1 hK1 => ?_
    refine wp_region_lit ?_
    refine la hk rfl (a_box hk rfl rfl fun a w b5 hk G => ?_)
    have hg_b5 : w0.heap.size ≤ b5 := Nat.le_trans hB.size G.ge
    have hB := ext_trans hB G.ext
    have h_b5 := G.at_
    clear G
    refine la hk rfl (a_box hk rfl rfl fun a w b6 hk G => ?_)
    have n_b5_b6 : b5 ≠ b6 := G.ne h_b5
    have hg_b6 : w0.heap.size ≤ b6 := Nat.le_trans hB.size G.ge
    have h_b5 := ext_at G.ext h_b5
    have hB := ext_trans hB G.ext
    have h_b6 := G.at_
    clear G
    refine la hk rfl (a_box hk rfl rfl fun a w b7 hk G => ?_)
    have n_b5_b7 : b5 ≠ b7 := G.ne h_b5
    have n_b6_b7 : b6 ≠ b7 := G.ne h_b6
    have hg_b7 : w0.heap.size ≤ b7 := Nat.le_trans hB.size G.ge
    have h_b5 := ext_at G.ext h_b5
    have h_b6 := ext_at G.ext h_b6
    have hB := ext_trans hB G.ext
    have h_b7 := G.at_
    clear G
    refine ls hk rfl rfl rfl (e_assign hk rfl _) fun a hk => ?_
    refine lnil (hK1 _ _ ?_)
    refine wp_seq_k fun K2 hK2 => ?_
    refine wp_seq_k fun K3 hK3 => ?_
    refine wp_region_lit ?_
    refine ls hk rfl rfl rfl (r_ld1 hk rfl Tryd.underlying3 rfl h_b7) fun a hk => ?_
    refine ls hk rfl rfl rfl (e_lss (b := false) hk rfl rfl (decide_eq_false (by omega)) _) fun a hk => ?_
    refine ls hk rfl rfl rfl (e_move hk rfl _) fun a hk => ?_
    refine ls hk rfl rfl rfl (r_ld1 hk rfl Tryd.underlying3 rfl h_b7) fun a hk => ?_
    refine ls hk rfl rfl rfl (e_move hk rfl _) fun a hk => ?_
    refine ls hk rfl rfl rfl (e_gtr (b := false) hk rfl rfl (decide_eq_false (by omega)) _) fun a hk => ?_
    refine ls hk rfl rfl rfl (e_pickF hk rfl rfl _) fun a hk => ?_
    refine ls hk rfl rfl rfl (e_move hk rfl _) fun a hk => ?_
    refine ls hk rfl rfl rfl (e_move hk rfl _) fun a hk => ?_
    refine ls hk rfl rfl rfl (e_gtr (b := false) hk rfl rfl (decide_eq_false (by omega)) _) fun a hk => ?_
    refine ls hk rfl rfl rfl (e_pickF hk rfl rfl _) fun a hk => ?_
    refine lnil (hK3 _ _ ?_)
    refine cdF hk rfl ?_
    refine wp_skip (hK2 _ _ ?_)
    refine wp_seq_k fun K4 hK4 => ?_
    refine wp_seq_k fun K5 hK5 => ?_
    refine wp_region_lit ?_
    refine ls hk rfl rfl rfl (e_move hk rfl _) fun a hk => ?_
    refine ls hk rfl rfl rfl (e_eql (b := true) hk rfl rfl (decide_eq_true (by omega)) _) fun a hk => ?_
    refine lnil (hK5 _ _ ?_)
    refine cdT hk rfl ?_
    refine wp_seq_k fun K6 hK6 => ?_
    refine wp_seq_k fun K7 hK7 => ?_
    refine wp_region_ok (fun _ => True) [0, 0, 0, 0, 0, 0, 3, 4, 0, 0, 0, 1, 0, 0, 1, 0, 0, 0, 1, 0, 0, 1, 0, 0] mixed ?_
    have hB := hB.drew
    have h_b5 := ext_at (ext_drew w) h_b5
    have h_b6 := ext_at (ext_drew w) h_b6
    have h_b7 := ext_at (ext_drew w) h_b7
    have hS : (fun _ => True) w.drew := trivial
    refine d0 0 hk rfl (by kernel_rfl) rfl rfl rfl rfl (fun _ => e_move hk rfl _) fun a hk => ?_
    refine d0 1 hk rfl (by kernel_rfl) rfl rfl rfl rfl (fun _ => e_lenS hk rfl Tryd.underlying69 _) fun a hk => ?_
    refine d0 2 hk rfl (by kernel_rfl) rfl rfl rfl rfl (fun _ => e_neq (b := true) hk rfl rfl (by simp; omega) _) fun a hk => ?_
    refine d0 3 hk rfl (by kernel_rfl) rfl rfl rfl rfl (fun _ => e_move hk rfl _) fun a hk => ?_
    refine dno 4 hk rfl (by kernel_rfl) rfl rfl rfl fun a hk => ?_
    refine dno 5 hk rfl (by kernel_rfl) rfl rfl rfl fun a hk => ?_
    refine dno 6 hk rfl (by kernel_rfl) rfl rfl rfl fun a hk => ?_
    refine dno 7 hk rfl (by kernel_rfl) rfl rfl rfl fun a hk => ?_
    refine dno 8 hk rfl (by kernel_rfl) rfl rfl rfl fun a hk => ?_
    refine d0 9 hk rfl (by kernel_rfl) rfl rfl rfl rfl (fun _ => e_pickT hk rfl rfl _) fun a hk => ?_
    refine d0 10 hk rfl (by kernel_rfl) rfl rfl rfl rfl (fun _ => e_move hk rfl _) fun a hk => ?_
    refine dno 11 hk rfl (by kernel_rfl) rfl rfl rfl fun a hk => ?_
    refine dno 12 hk rfl (by kernel_rfl) rfl rfl rfl fun a hk => ?_
    refine dno 13 hk rfl (by kernel_rfl) rfl rfl rfl fun a hk => ?_
    refine dno 14 hk rfl (by kernel_rfl) rfl rfl rfl fun a hk => ?_
    refine dno 15 hk rfl (by kernel_rfl) rfl rfl rfl fun a hk => ?_
    refine d0 16 hk rfl (by kernel_rfl) rfl rfl rfl rfl (fun _ => e_pickT hk rfl rfl _) fun a hk => ?_
    refine d0 17 hk rfl (by kernel_rfl) rfl rfl rfl rfl (fun _ => e_move hk rfl _) fun a hk => ?_
    refine dno 18 hk rfl (by kernel_rfl) rfl rfl rfl fun a hk => ?_
    refine dno 19 hk rfl (by kernel_rfl) rfl rfl rfl fun a hk => ?_
    refine dno 20 hk rfl (by kernel_rfl) rfl rfl rfl fun a hk => ?_
    refine dno 21 hk rfl (by kernel_rfl) rfl rfl rfl fun a hk => ?_
    refine dno 22 hk rfl (by kernel_rfl) rfl rfl rfl fun a hk => ?_
    refine d0 23 hk rfl (by kernel_rfl) rfl rfl rfl rfl (fun _ => e_pickT hk rfl rfl _) fun a hk => ?_
    refine okFin (by kernel_rfl) (hK7 _ _ ?_)
    refine cdT hk rfl ?_
    refine wp_seq_k fun K8 hK8 => ?_
    refine wp_region_lit ?_
    refine ls hk rfl rfl rfl (e_assign hk rfl _) fun a hk => ?_
    refine lnil (hK8 _ _ ?_)
    refine wp_ret ?_
    simp only [then_ret]
    exact ret1 hk rfl rfl ⟨by rw [hz], hB⟩
  · rcases or4 (l.getD 0 [] = ofD 2 []) (old = l.getD 0 []) (rt = l.getD 0 []) with h1 | ⟨h1, h2⟩ | ⟨h1, h2, h3⟩ | ⟨h1, h2, h3⟩
    · obtain ⟨n, rfl⟩ : ∃ k : Nat, n₀ = k := ⟨n₀.toNat, by omega⟩
      obtain ⟨m, rfl⟩ : ∃ k : Nat, m₀ = k := ⟨m₀.toNat, by omega⟩
      have hz : extR old rt n m l = 15 := by rw [ext_none (by omega) (by omega)]; rw [if_neg]; intro h; apply h1; rw [getD_zD (by omega)]; exact h.2.1
      refine start 75 Tryd.func57 rfl rfl rfl fun a hk => ?_
      have hB : Ext w0 w0 := Below.refl _ _
      refine wp_seq_k fun K1 hK1 => ?_
      refine wp_region_lit ?_
      refine la hk rfl (a_box hk rfl rfl fun a w b5 hk G => ?_)
      have hg_b5 : w0.heap.size ≤ b5 := Nat.le_trans hB.size G.ge
      have hB := ext_trans hB G.ext
      have h_b5 := G.at_
      clear G
      refine la hk rfl (a_box hk rfl rfl fun a w b6 hk G => ?_)
      have n_b5_b6 : b5 ≠ b6 := G.ne h_b5
      have hg_b6 : w0.heap.size ≤ b6 := Nat.le_trans hB.size G.ge
      have h_b5 := ext_at G.ext h_b5
      have hB := ext_trans hB G.ext
      have h_b6 := G.at_
      clear G
      refine la hk rfl (a_box hk rfl rfl fun a w b7 hk G => ?_)
      have n_b5_b7 : b5 ≠ b7 := G.ne h_b5
      have n_b6_b7 : b6 ≠ b7 := G.ne h_b6
      have hg_b7 : w0.heap.size ≤ b7 := Nat.le_trans hB.size G.ge
      have h_b5 := ext_at G.ext h_b5
      have h_b6 := ext_at G.ext h_b6
      have hB := ext_trans hB G.ext
      have h_b7 := G.at_
      clear G
      refine ls hk rfl rfl rfl (e_assign hk rfl _) fun a hk => ?_
      refine lnil (hK1 _ _ ?_)
      refine wp_seq_k fun K2 hK2 => ?_
      refine wp_seq_k fun K3 hK3 => ?_
      refine wp_region_lit ?_
      refine ls hk rfl rfl rfl (r_ld1 hk rfl Tryd.underlying3 rfl h_b7) fun a hk => ?_
      refine ls hk rfl rfl rfl (e_lss (b := false) hk rfl rfl (decide_eq_false (by omega)) _) fun a hk => ?_
      refine ls hk rfl rfl rfl (e_move hk rfl _) fun a hk => ?_
      refine ls hk rfl rfl rfl (r_ld1 hk rfl Tryd.underlying3 rfl h_b7) fun a hk => ?_
      refine ls hk rfl rfl rfl (e_move hk rfl _) fun a hk => ?_
      refine ls hk rfl rfl rfl (e_gtr (b := false) hk rfl rfl (decide_eq_false (by omega)) _) fun a hk => ?_
      refine ls hk rfl rfl rfl (e_pickF hk rfl rfl _) fun a hk => ?_
      refine ls hk rfl rfl rfl (e_move hk rfl _) fun a hk => ?_
      refine ls hk rfl rfl rfl (e_move hk rfl _) fun a hk => ?_
      refine ls hk rfl rfl rfl (e_gtr (b := false) hk rfl rfl (decide_eq_false (by omega)) _) fun a hk => ?_
      refine ls hk rfl rfl rfl (e_pickF hk rfl rfl _) fun a hk => ?_
      refine lnil (hK3 _ _ ?_)
      refine cdF hk rfl ?_
      refine wp_skip (hK2 _ _ ?_)
      refine wp_seq_k fun K4 hK4 => ?_
      refine wp_seq_k fun K5 hK5 => ?_
      refine wp_region_lit ?_
      refine ls hk rfl rfl rfl (e_move hk rfl _) fun a hk => ?_
      refine ls hk rfl rfl rfl (e_eql (b := true) hk rfl rfl (decide_eq_true (by omega)) _) fun a hk => ?_
      refine lnil (hK5 _ _ ?_)
      refine cdT hk rfl ?_
      refine wp_seq_k fun K6 hK6 => ?_
      refine wp_seq_k fun K7 hK7 => ?_
      have hll := hl1
      obtain ⟨bd, od, rfl, hrg, hd16⟩ := hRl.get 0 (by omega)
      have hg0 : l.getD 0 zD = l.getD 0 [] := (getD_zD (by omega)).symm
      refine wp_region_ok (fun w => w.rangeAt bd (od + 0 * 16) ((l.getD 0 []).map B)) [0, 0, 0, 0, 0, 0, 3, 4, 0, 0, 0, 1, 0, 0, 1, 0, 0, 0, 1, 0, 0, 1, 0, 0] mixed ?_
      have hB := hB.drew
      have h_b5 := ext_at (ext_drew w) h_b5
      have h_b6 := ext_at (ext_drew w) h_b6
      have h_b7 := ext_at (ext_drew w) h_b7
      have hS : (fun w => w.rangeAt bd (od + 0 * 16) ((l.getD 0 []).map B)) w.drew := range_ext hB hrg
      refine d0 0 hk rfl (by kernel_rfl) rfl rfl rfl rfl (fun _ => e_move hk rfl _) fun a hk => ?_
      refine d0 1 hk rfl (by kernel_rfl) rfl rfl rfl rfl (fun _ => e_lenS hk rfl Tryd.underlying69 _) fun a hk => ?_
      refine d0 2 hk rfl (by kernel_rfl) rfl rfl rfl rfl (fun _ => e_neq (b := false) hk rfl rfl (by simp; omega) _) fun a hk => ?_
      refine d0 3 hk rfl (by kernel_rfl) rfl rfl rfl rfl (fun _ => e_move hk rfl _) fun a hk => ?_
      refine d0 4 hk rfl (by kernel_rfl) rfl rfl rfl rfl (fun _ => e_move hk rfl _) fun a hk => ?_
      refine d0 5 hk rfl (by kernel_rfl) rfl rfl rfl rfl (fun _ => e_idxSn 0 hk rfl rfl Tryd.underlying69 sz44 rfl (by omega) _) fun a hk => ?_
      refine d3 6 hk rfl (by kernel_rfl) rfl rfl rfl rfl hS (fun w hS => r_ldR44 hk rfl hS hd16) fun a hk => ?_
      refine da4 7 hk rfl (by kernel_rfl) rfl rfl hS (a_call hk rfl rfl (c_fn hk rfl ok46) (c46 [] ⟨by decide, by simp⟩ none 0 _ rd_none (hG.ext hB)) ?_)
      rintro e w ⟨rfl, hE⟩
      refine ⟨_, rfl, fun a hk => ⟨range_ext hE hS, ?_⟩⟩
      have hS := range_ext hE hS
      have h_b5 := ext_at hE h_b5
      have h_b6 := ext_at hE h_b6
      have h_b7 := ext_at hE h_b7
      have hB := ext_trans hB hE
      rw [rootS_nil] at hk
      clear hE
      refine d0 8 hk rfl (by kernel_rfl) rfl rfl rfl rfl (fun _ => e_neA (l := l.getD 0 []) (r := ofD 2 []) (b := true) hk rfl rfl Tryd.underlying44 Tryd.underlying5 sz5 hd16 (by simp) eg44 (by rw [decide_eq_false h1]; rfl) _) fun a hk => ?_
      refine d0 9 hk rfl (by kernel_rfl) rfl rfl rfl rfl (fun _ => e_pickF hk rfl rfl _) fun a hk => ?_
      refine d0 10 hk rfl (by kernel_rfl) rfl rfl rfl rfl (fun _ => e_move hk rfl _) fun a hk => ?_
      refine dno 11 hk rfl (by kernel_rfl) rfl rfl rfl fun a hk => ?_
      refine dno 12 hk rfl (by kernel_rfl) rfl rfl rfl fun a hk => ?_
      refine dno 13 hk rfl (by kernel_rfl) rfl rfl rfl fun a hk => ?_
      refine dno 14 hk rfl (by kernel_rfl) rfl rfl rfl fun a hk => ?_
      refine dno 15 hk rfl (by kernel_rfl) rfl rfl rfl fun a hk => ?_
      refine d0 16 hk rfl (by kernel_rfl) rfl rfl rfl rfl (fun _ => e_pickT hk rfl rfl _) fun a hk => ?_
      refine d0 17 hk rfl (by kernel_rfl) rfl rfl rfl rfl (fun _ => e_move hk rfl _) fun a hk => ?_
      refine dno 18 hk rfl (by kernel_rfl) rfl rfl rfl fun a hk => ?_
      refine dno 19 hk rfl (by kernel_rfl) rfl rfl rfl fun a hk => ?_
      refine dno 20 hk rfl (by kernel_rfl) rfl rfl rfl fun a hk => ?_
      refine dno 21 hk rfl (by kernel_rfl) rfl rfl rfl fun a hk => ?_
      refine dno 22 hk rfl (by kernel_rfl) rfl rfl rfl fun a hk => ?_
      refine d0 23 hk rfl (by kernel_rfl) rfl rfl rfl rfl (fun _ => e_pickT hk rfl rfl _) fun a hk => ?_
      refine okFin (by kernel_rfl) (hK7 _ _ ?_)
      refine cdT hk rfl ?_
      refine wp_seq_k fun K8 hK8 => ?_
      refine wp_region_lit ?_
      refine ls hk rfl rfl rfl (e_assign hk rfl _) fun a hk => ?_
      refine lnil (hK8 _ _ ?_)
      refine wp_ret ?_
      simp only [then_ret]
      exact ret1 hk rfl rfl ⟨by rw [hz], hB⟩
    · obtain ⟨n, rfl⟩ : ∃ k : Nat, n₀ = k := ⟨n₀.toNat, by omega⟩
      obtain ⟨m, rfl⟩ : ∃ k : Nat, m₀ = k := ⟨m₀.toNat, by omega⟩
      have hz : extR old rt n m l = 15 := by rw [ext_none (by omega) (by omega)]; rw [if_neg]; intro h; apply h2; rw [getD_zD (by omega)]; exact h.2.2.1
      refine start 75 Tryd.func57 rfl rfl rfl fun a hk => ?_
      have hB : Ext w0 w0 := Below.refl _ _
      refine wp_seq_k fun K1 hK1 => ?_
      refine wp_region_lit ?_
      refine la hk rfl (a_box hk rfl rfl fun a w b5 hk G => ?_)
      have hg_b5 : w0.heap.size ≤ b5 := Nat.le_trans hB.size G.ge
      have hB := ext_trans hB G.ext
      have h_b5 := G.at_
      clear G
      refine la hk rfl (a_box hk rfl rfl fun a w b6 hk G => ?_)
      have n_b5_b6 : b5 ≠ b6 := G.ne h_b5
      have hg_b6 : w0.heap.size ≤ b6 := Nat.le_trans hB.size G.ge
      have h_b5 := ext_at G.ext h_b5
      have hB := ext_trans hB G.ext
      have h_b6 := G.at_
      clear G
      refine la hk rfl (a_box hk rfl rfl fun a w b7 hk G => ?_)
      have n_b5_b7 : b5 ≠ b7 := G.ne h_b5
      have n_b6_b7 : b6 ≠ b7 := G.ne h_b6
      have hg_b7 : w0.heap.size ≤ b7 := Nat.le_trans hB.size G.ge
      have h_b5 := ext_at G.ext h_b5
      have h_b6 := ext_at G.ext h_b6
      have hB := ext_trans hB G.ext
      have h_b7 := G.at_
      clear G
      refine ls hk rfl rfl rfl (e_assign hk rfl _) fun a hk => ?_
      refine lnil (hK1 _ _ ?_)
      refine wp_seq_k fun K2 hK2 => ?_
      refine wp_seq_k fun K3 hK3 => ?_
      refine wp_region_lit ?_
      refine ls hk rfl rfl rfl (r_ld1 hk rfl Tryd.underlying3 rfl h_b7) fun a hk => ?_
      refine ls hk rfl rfl rfl (e_lss (b := false) hk rfl rfl (decide_eq_false (by omega)) _) fun a hk => ?_
      refine ls hk rfl rfl rfl (e_move hk rfl _) fun a hk => ?_
      refine ls hk rfl rfl rfl (r_ld1 hk rfl Tryd.underlying3 rfl h_b7) fun a hk => ?_
      refine ls hk rfl rfl rfl (e_move hk rfl _) fun a hk => ?_
      refine ls hk rfl rfl rfl (e_gtr (b := false) hk rfl rfl (decide_eq_false (by omega)) _) fun a hk => ?_
      refine ls hk rfl rfl rfl (e_pickF hk rfl rfl _) fun a hk => ?_
      refine ls hk rfl rfl rfl (e_move hk rfl _) fun a hk => ?_
      refine ls hk rfl rfl rfl (e_move hk rfl _) fun a hk => ?_
      refine ls hk rfl rfl rfl (e_gtr (b := false) hk rfl rfl (decide_eq_false (by omega)) _) fun a hk => ?_
      refine ls hk rfl rfl rfl (e_pickF hk rfl rfl _) fun a hk => ?_
      refine lnil (hK3 _ _ ?_)
      refine cdF hk rfl ?_
      refine wp_skip (hK2 _ _ ?_)
      refine wp_seq_k fun K4 hK4 => ?_
      refine wp_seq_k fun K5 hK5 => ?_
      refine wp_region_lit ?_
      refine ls hk rfl rfl rfl (e_move hk rfl _) fun a hk => ?_
      refine ls hk rfl rfl rfl (e_eql (b := true) hk rfl rfl (decide_eq_true (by omega)) _) fun a hk => ?_
      refine lnil (hK5 _ _ ?_)
      refine cdT hk rfl ?_
      refine wp_seq_k fun K6 hK6 => ?_
      refine wp_seq_k fun K7 hK7 => ?_
      have hll := hl1
      obtain ⟨bd, od, rfl, hrg, hd16⟩ := hRl.get 0 (by omega)
      have hg0 : l.getD 0 zD = l.getD 0 [] := (getD_zD (by omega)).symm
      refine wp_region_ok (fun w => w.rangeAt bd (od + 0 * 16) ((l.getD 0 []).map B)) [0, 0, 0, 0, 0, 0, 3, 4, 0, 0, 0, 1, 0, 0, 1, 0, 0, 0, 1, 0, 0, 1, 0, 0] mixed ?_
      have hB := hB.drew
      have h_b5 := ext_at (ext_drew w) h_b5
      have h_b6 := ext_at (ext_drew w) h_b6
      have h_b7 := ext_at (ext_drew w) h_b7
      have hS : (fun w => w.rangeAt bd (od + 0 * 16) ((l.getD 0 []).map B)) w.drew := range_ext hB hrg
      refine d0 0 hk rfl (by kernel_rfl) rfl rfl rfl rfl (fun _ => e_move hk rfl _) fun a hk => ?_
      refine d0 1 hk rfl (by kernel_rfl) rfl rfl rfl rfl (fun _ => e_lenS hk rfl Tryd.underlying69 _) fun a hk => ?_
      refine d0 2 hk rfl (by kernel_rfl) rfl rfl rfl rfl (fun _ => e_neq (b := false) hk rfl rfl (by simp; omega) _) fun a hk => ?_
      refine d0 3 hk rfl (by kernel_rfl) rfl rfl rfl rfl (fun _ => e_move hk rfl _) fun a hk => ?_
      refine d0 4 hk rfl (by kernel_rfl) rfl rfl rfl rfl (fun _ => e_move hk rfl _) fun a hk => ?_
      refine d0 5 hk rfl (by kernel_rfl) rfl rfl rfl rfl (fun _ => e_idxSn 0 hk rfl rfl Tryd.underlying69 sz44 rfl (by omega) _) fun a hk => ?_
      refine d3 6 hk rfl (by kernel_rfl) rfl rfl rfl rfl hS (fun w hS => r_ldR44 hk rfl hS hd16) fun a hk => ?_
      refine da4 7 hk rfl (by kernel_rfl) rfl rfl hS (a_call hk rfl rfl (c_fn hk rfl ok46) (c46 [] ⟨by decide, by simp⟩ none 0 _ rd_none (hG.ext hB)) ?_)
      rintro e w ⟨rfl, hE⟩
      refine ⟨_, rfl, fun a hk => ⟨range_ext hE hS, ?_⟩⟩
      have hS := range_ext hE hS
      have h_b5 := ext_at hE h_b5
      have h_b6 := ext_at hE h_b6
      have h_b7 := ext_at hE h_b7
      have hB := ext_trans hB hE
      rw [rootS_nil] at hk
      clear hE
      refine d0 8 hk rfl (by kernel_rfl) rfl rfl rfl rfl (fun _ => e_neA (l := l.getD 0 []) (r := ofD 2 []) (b := false) hk rfl rfl Tryd.underlying44 Tryd.underlying5 sz5 hd16 (by simp) eg44 (by rw [decide_eq_true h1]; rfl) _) fun a hk => ?_
      refine d0 9 hk rfl (by kernel_rfl) rfl rfl rfl rfl (fun _ => e_pickF hk rfl rfl _) fun a hk => ?_
      refine d0 10 hk rfl (by kernel_rfl) rfl rfl rfl rfl (fun _ => e_move hk rfl _) fun a hk => ?_
      refine d1 11 hk rfl (by kernel_rfl) rfl rfl rfl rfl (r_ld44 hk rfl h_b5 hold) fun a hk => ?_
      refine d0 12 hk rfl (by kernel_rfl) rfl rfl rfl rfl (fun _ => e_move hk rfl _) fun a hk => ?_
      refine d0 13 hk rfl (by kernel_rfl) rfl rfl rfl rfl (fun _ => e_idxSn 0 hk rfl rfl Tryd.underlying69 sz44 rfl (by omega) _) fun a hk => ?_
      refine d1 14 hk rfl (by kernel_rfl) rfl rfl rfl rfl (r_ldR44 hk rfl hS hd16) fun a hk => ?_
      refine d0 15 hk rfl (by kernel_rfl) rfl rfl rfl rfl (fun _ => e_neA (l := old) (r := l.getD 0 []) (b := true) hk rfl rfl Tryd.underlying44 Tryd.underlying5 sz5 hold hd16 eg44 (by rw [decide_eq_false h2]; rfl) _) fun a hk => ?_
      refine d0 16 hk rfl (by kernel_rfl) rfl rfl rfl rfl (fun _ => e_pickF hk rfl rfl _) fun a hk => ?_
      refine d0 17 hk rfl (by kernel_rfl) rfl rfl rfl rfl (fun _ => e_move hk rfl _) fun a hk => ?_
      refine dno 18 hk rfl (by kernel_rfl) rfl rfl rfl fun a hk => ?_
      refine dno 19 hk rfl (by kernel_rfl) rfl rfl rfl fun a hk => ?_
      refine dno 20 hk rfl (by kernel_rfl) rfl rfl rfl fun a hk => ?_
      refine dno 21 hk rfl (by kernel_rfl) rfl rfl rfl fun a hk => ?_
      refine dno 22 hk rfl (by kernel_rfl) rfl rfl rfl fun a hk => ?_
      refine d0 23 hk rfl (by kernel_rfl) rfl rfl rfl rfl (fun _ => e_pickT hk rfl rfl _) fun a hk => ?_
      refine okFin (by kernel_rfl) (hK7 _ _ ?_)
      refine cdT hk rfl ?_
      refine wp_seq_k fun K8 hK8 => ?_
      refine wp_region_lit ?_
      refine ls hk rfl rfl rfl (e_assign hk rfl _) fun a hk => ?_
      refine lnil (hK8 _ _ ?_)
      refine wp_ret ?_
      simp only [then_ret]
      exact ret1 hk rfl rfl ⟨by rw [hz], hB⟩
    · obtain ⟨n, rfl⟩ : ∃ k : Nat, n₀ = k := ⟨n₀.toNat, by omega⟩
      obtain ⟨m, rfl⟩ : ∃ k : Nat, m₀ = k := ⟨m₀.toNat, by omega⟩
      have hz : extR old rt n m l = 15 := by rw [ext_none (by omega) (by omega)]; rw [if_neg]; intro h; apply h3; rw [getD_zD (by omega)]; exact h.2.2.2
      refine start 75 Tryd.func57 rfl rfl rfl fun a hk => ?_
      have hB : Ext w0 w0 := Below.refl _ _
      refine wp_seq_k fun K1 hK1 => ?_
      refine wp_region_lit ?_
      refine la hk rfl (a_box hk rfl rfl fun a w b5 hk G => ?_)
      have hg_b5 : w0.heap.size ≤ b5 := Nat.le_trans hB.size G.ge
      have hB := ext_trans hB G.ext
      have h_b5 := G.at_
      clear G
      refine la hk rfl (a_box hk rfl rfl fun a w b6 hk G => ?_)
      have n_b5_b6 : b5 ≠ b6 := G.ne h_b5
      have hg_b6 : w0.heap.size ≤ b6 := Nat.le_trans hB.size G.ge
      have h_b5 := ext_at G.ext h_b5
      have hB := ext_trans hB G.ext
      have h_b6 := G.at_
      clear G
      refine la hk rfl (a_box hk rfl rfl fun a w b7 hk G => ?_)
      have n_b5_b7 : b5 ≠ b7 := G.ne h_b5
      have n_b6_b7 : b6 ≠ b7 := G.ne h_b6
      have hg_b7 : w0.heap.size ≤ b7 := Nat.le_trans hB.size G.ge
      have h_b5 := ext_at G.ext h_b5
      have h_b6 := ext_at G.ext h_b6
      have hB := ext_trans hB G.ext
      have h_b7 := G.at_
      clear G
      refine ls hk rfl rfl rfl (e_assign hk rfl _) fun a hk => ?_
      refine lnil (hK1 _ _ ?_)
      refine wp_seq_k fun K2 hK2 => ?_
      refine wp_seq_k fun K3 hK3 => ?_
      refine wp_region_lit ?_
      refine ls hk rfl rfl rfl (r_ld1 hk rfl Tryd.underlying3 rfl h_b7) fun a hk => ?_
      refine ls hk rfl rfl rfl (e_lss (b := false) hk rfl rfl (decide_eq_false (by omega)) _) fun a hk => ?_
      refine ls hk rfl rfl rfl (e_move hk rfl _) fun a hk => ?_
      refine ls hk rfl rfl rfl (r_ld1 hk rfl Tryd.underlying3 rfl h_b7) fun a hk => ?_
      refine ls hk rfl rfl rfl (e_move hk rfl _) fun a hk => ?_
      refine ls hk rfl rfl rfl (e_gtr (b := false) hk rfl rfl (decide_eq_false (by omega)) _) fun a hk => ?_
      refine ls hk rfl rfl rfl (e_pickF hk rfl rfl _) fun a hk => ?_
      refine ls hk rfl rfl rfl (e_move hk rfl _) fun a hk => ?_
      refine ls hk rfl rfl rfl (e_move hk rfl _) fun a hk => ?_
      refine ls hk rfl rfl rfl (e_gtr (b := false) hk rfl rfl (decide_eq_false (by omega)) _) fun a hk => ?_
      refine ls hk rfl rfl rfl (e_pickF hk rfl rfl _) fun a hk => ?_
      refine lnil (hK3 _ _ ?_)
      refine cdF hk rfl ?_
      refine wp_skip (hK2 _ _ ?_)
      refine wp_seq_k fun K4 hK4 => ?_
      refine wp_seq_k fun K5 hK5 => ?_
      refine wp_region_lit ?_
      refine ls hk rfl rfl rfl (e_move hk rfl _) fun a hk => ?_
      refine ls hk rfl rfl rfl (e_eql (b := true) hk rfl rfl (decide_eq_true (by omega)) _) fun a hk => ?_
      refine lnil (hK5 _ _ ?_)
      refine cdT hk rfl ?_
      refine wp_seq_k fun K6 hK6 => ?_
      refine wp_seq_k fun K7 hK7 => ?_
      have hll := hl1
      obtain ⟨bd, od, rfl, hrg, hd16⟩ := hRl.get 0 (by omega)
      have hg0 : l.getD 0 zD = l.getD 0 [] := (getD_zD (by omega)).symm
      refine wp_region_ok (fun w => w.rangeAt bd (od + 0 * 16) ((l.getD 0 []).map B)) [0, 0, 0, 0, 0, 0, 3, 4, 0, 0, 0, 1, 0, 0, 1, 0, 0, 0, 1, 0, 0, 1, 0, 0] mixed ?_
      have hB := hB.drew
      have h_b5 := ext_at (ext_drew w) h_b5
      have h_b6 := ext_at (ext_drew w) h_b6
      have h_b7 := ext_at (ext_drew w) h_b7
      have hS : (fun w => w.rangeAt bd (od + 0 * 16) ((l.getD 0 []).map B)) w.drew := range_ext hB hrg
      refine d0 0 hk rfl (by kernel_rfl) rfl rfl rfl rfl (fun _ => e_move hk rfl _) fun a hk => ?_
      refine d0 1 hk rfl (by kernel_rfl) rfl rfl rfl rfl (fun _ => e_lenS hk rfl Tryd.underlying69 _) fun a hk => ?_
      refine d0 2 hk rfl (by kernel_rfl) rfl rfl rfl rfl (fun _ => e_neq (b := false) hk rfl rfl (by simp; omega) _) fun a hk => ?_
      refine d0 3 hk rfl (by kernel_rfl) rfl rfl rfl rfl (fun _ => e_move hk rfl _) fun a hk => ?_
      refine d0 4 hk rfl (by kernel_rfl) rfl rfl rfl rfl (fun _ => e_move hk rfl _) fun a hk => ?_
      refine d0 5 hk rfl (by kernel_rfl) rfl rfl rfl rfl (fun _ => e_idxSn 0 hk rfl rfl Tryd.underlying69 sz44 rfl (by omega) _) fun a hk => ?_
      refine d3 6 hk rfl (by kernel_rfl) rfl rfl rfl rfl hS (fun w hS => r_ldR44 hk rfl hS hd16) fun a hk => ?_
      refine da4 7 hk rfl (by kernel_rfl) rfl rfl hS (a_call hk rfl rfl (c_fn hk rfl ok46) (c46 [] ⟨by decide, by simp⟩ none 0 _ rd_none (hG.ext hB)) ?_)
      rintro e w ⟨rfl, hE⟩
      refine ⟨_, rfl, fun a hk => ⟨range_ext hE hS, ?_⟩⟩
      have hS := range_ext hE hS
      have h_b5 := ext_at hE h_b5
      have h_b6 := ext_at hE h_b6
      have h_b7 := ext_at hE h_b7
      have hB := ext_trans hB hE
      rw [rootS_nil] at hk
      clear hE
      refine d0 8 hk rfl (by kernel_rfl) rfl rfl rfl rfl (fun _ => e_neA (l := l.getD 0 []) (r := ofD 2 []) (b := false) hk rfl rfl Tryd.underlying44 Tryd.underlying5 sz5 hd16 (by simp) eg44 (by rw [decide_eq_true h1]; rfl) _) fun a hk => ?_
      refine d0 9 hk rfl (by kernel_rfl) rfl rfl rfl rfl (fun _ => e_pickF hk rfl rfl _) fun a hk => ?_
      refine d0 10 hk rfl (by kernel_rfl) rfl rfl rfl rfl (fun _ => e_move hk rfl _) fun a hk => ?_
      refine d1 11 hk rfl (by kernel_rfl) rfl rfl rfl rfl (r_ld44 hk rfl h_b5 hold) fun a hk => ?_
      refine d0 12 hk rfl (by kernel_rfl) rfl rfl rfl rfl (fun _ => e_move hk rfl _) fun a hk => ?_
      refine d0 13 hk rfl (by kernel_rfl) rfl rfl rfl rfl (fun _ => e_idxSn 0 hk rfl rfl Tryd.underlying69 sz44 rfl (by omega) _) fun a hk => ?_
      refine d1 14 hk rfl (by kernel_rfl) rfl rfl rfl rfl (r_ldR44 hk rfl hS hd16) fun a hk => ?_
      refine d0 15 hk rfl (by kernel_rfl) rfl rfl rfl rfl (fun _ => e_neA (l := old) (r := l.getD 0 []) (b := false) hk rfl rfl Tryd.underlying44 Tryd.underlying5 sz5 hold hd16 eg44 (by rw [decide_eq_true h2]; rfl) _) fun a hk => ?_
      refine d0 16 hk rfl (by kernel_rfl) rfl rfl rfl rfl (fun _ => e_pickF hk rfl rfl _) fun a hk => ?_
      refine d0 17 hk rfl (by kernel_rfl) rfl rfl rfl rfl (fun _ => e_move hk rfl _) fun a hk => ?_
      refine d1 18 hk rfl (by kernel_rfl) rfl rfl rfl rfl (r_ld44 hk rfl h_b6 hrt) fun a hk => ?_
      refine d0 19 hk rfl (by kernel_rfl) rfl rfl rfl rfl (fun _ => e_move hk rfl _) fun a hk => ?_
      refine d0 20 hk rfl (by kernel_rfl) rfl rfl rfl rfl (fun _ => e_idxSn 0 hk rfl rfl Tryd.underlying69 sz44 rfl (by omega) _) fun a hk => ?_
      refine d1 21 hk rfl (by kernel_rfl) rfl rfl rfl rfl (r_ldR44 hk rfl hS hd16) fun a hk => ?_
      refine d0 22 hk rfl (by kernel_rfl) rfl rfl rfl rfl (fun _ => e_neA (l := rt) (r := l.getD 0 []) (b := true) hk rfl rfl Tryd.underlying44 Tryd.underlying5 sz5 hrt hd16 eg44 (by rw [decide_eq_false h3]; rfl) _) fun a hk => ?_
      refine d0 23 hk rfl (by kernel_rfl) rfl rfl rfl rfl (fun _ => e_pickF hk rfl rfl _) fun a hk => ?_
      refine okFin (by kernel_rfl) (hK7 _ _ ?_)
      refine cdT hk rfl ?_
      refine wp_seq_k fun K8 hK8 => ?_
      refine wp_region_lit ?_
      refine ls hk rfl rfl rfl (e_assign hk rfl _) fun a hk => ?_
      refine lnil (hK8 _ _ ?_)
      refine wp_ret ?_
      simp only [then_ret]
      exact ret1 hk rfl rfl ⟨by rw [hz], hB⟩
    · obtain ⟨n, rfl⟩ : ∃ k : Nat, n₀ = k := ⟨n₀.toNat, by omega⟩
      obtain ⟨m, rfl⟩ : ∃ k : Nat, m₀ = k := ⟨m₀.toNat, by omega⟩
      have hz : extR old rt n m l = 0 := by rw [ext_none (by omega) (by omega)]; rw [if_pos]; rw [← getD_zD (by omega)]; exact ⟨hl1, h1, h2, h3⟩
      refine start 75 Tryd.func57 rfl rfl rfl fun a hk => ?_
      have hB : Ext w0 w0 := Below.refl _ _
      refine wp_seq_k fun K1 hK1 => ?_
      refine wp_region_lit ?_
      refine la hk rfl (a_box hk rfl rfl fun a w b5 hk G => ?_)
      have hg_b5 : w0.heap.size ≤ b5 := Nat.le_trans hB.size G.ge
      have hB := ext_trans hB G.ext
      have h_b5 := G.at_
      clear G
      refine la hk rfl (a_box hk rfl rfl fun a w b6 hk G => ?_)
      have n_b5_b6 : b5 ≠ b6 := G.ne h_b5
      have hg_b6 : w0.heap.size ≤ b6 := Nat.le_trans hB.size G.ge
      have h_b5 := ext_at G.ext h_b5
      have hB := ext_trans hB G.ext
      have h_b6 := G.at_
      clear G
      refine la hk rfl (a_box hk rfl rfl fun a w b7 hk G => ?_)
      have n_b5_b7 : b5 ≠ b7 := G.ne h_b5
      have n_b6_b7 : b6 ≠ b7 := G.ne h_b6
      have hg_b7 : w0.heap.size ≤ b7 := Nat.le_trans hB.size G.ge
      have h_b5 := ext_at G.ext h_b5
      have h_b6 := ext_at G.ext h_b6
      have hB := ext_trans hB G.ext
      have h_b7 := G.at_
      clear G
      refine ls hk rfl rfl rfl (e_assign hk rfl _) fun a hk => ?_
      refine lnil (hK1 _ _ ?_)
      refine wp_seq_k fun K2 hK2 => ?_
      refine wp_seq_k fun K3 hK3 => ?_
      refine wp_region_lit ?_
      refine ls hk rfl rfl rfl (r_ld1 hk rfl Tryd.underlying3 rfl h_b7) fun a hk => ?_
      refine ls hk rfl rfl rfl (e_lss (b := false) hk rfl rfl (decide_eq_false (by omega)) _) fun a hk => ?_
      refine ls hk rfl rfl rfl (e_move hk rfl _) fun a hk => ?_
      refine ls hk rfl rfl rfl (r_ld1 hk rfl Tryd.underlying3 rfl h_b7) fun a hk => ?_
      refine ls hk rfl rfl rfl (e_move hk rfl _) fun a hk => ?_
      refine ls hk rfl rfl rfl (e_gtr (b := false) hk rfl rfl (decide_eq_false (by omega)) _) fun a hk => ?_
      refine ls hk rfl rfl rfl (e_pickF hk rfl rfl _) fun a hk => ?_
      refine ls hk rfl rfl rfl (e_move hk rfl _) fun a hk => ?_
      refine ls hk rfl rfl rfl (e_move hk rfl _) fun a hk => ?_
      refine ls hk rfl rfl rfl (e_gtr (b := false) hk rfl rfl (decide_eq_false (by omega)) _) fun a hk => ?_
      refine ls hk rfl rfl rfl (e_pickF hk rfl rfl _) fun a hk => ?_
      refine lnil (hK3 _ _ ?_)
      refine cdF hk rfl ?_
      refine wp_skip (hK2 _ _ ?_)
      refine wp_seq_k fun K4 hK4 => ?_
      refine wp_seq_k fun K5 hK5 => ?_
      refine wp_region_lit ?_
      refine ls hk rfl rfl rfl (e_move hk rfl _) fun a hk => ?_
      refine ls hk rfl rfl rfl (e_eql (b := true) hk rfl rfl (decide_eq_true (by omega)) _) fun a hk => ?_
      refine lnil (hK5 _ _ ?_)
      refine cdT hk rfl ?_
      refine wp_seq_k fun K6 hK6 => ?_
      refine wp_seq_k fun K7 hK7 => ?_
      have hll := hl1
      obtain ⟨bd, od, rfl, hrg, hd16⟩ := hRl.get 0 (by omega)
      have hg0 : l.getD 0 zD = l.getD 0 [] := (getD_zD (by omega)).symm
      refine wp_region_ok (fun w => w.rangeAt bd (od + 0 * 16) ((l.getD 0 []).map B)) [0, 0, 0, 0, 0, 0, 3, 4, 0, 0, 0, 1, 0, 0, 1, 0, 0, 0, 1, 0, 0, 1, 0, 0] mixed ?_
      have hB := hB.drew
      have h_b5 := ext_at (ext_drew w) h_b5
      have h_b6 := ext_at (ext_drew w) h_b6
      have h_b7 := ext_at (ext_drew w) h_b7
      have hS : (fun w => w.rangeAt bd (od + 0 * 16) ((l.getD 0 []).map B)) w.drew := range_ext hB hrg
      refine d0 0 hk rfl (by kernel_rfl) rfl rfl rfl rfl (fun _ => e_move hk rfl _) fun a hk => ?_
      refine d0 1 hk rfl (by kernel_rfl) rfl rfl rfl rfl (fun _ => e_lenS hk rfl Tryd.underlying69 _) fun a hk => ?_
      refine d0 2 hk rfl (by kernel_rfl) rfl rfl rfl rfl (fun _ => e_neq (b := false) hk rfl rfl (by simp; omega) _) fun a hk => ?_
      refine d0 3 hk rfl (by kernel_rfl) rfl rfl rfl rfl (fun _ => e_move hk rfl _) fun a hk => ?_
      refine d0 4 hk rfl (by kernel_rfl) rfl rfl rfl rfl (fun _ => e_move hk rfl _) fun a hk => ?_
      refine d0 5 hk rfl (by kernel_rfl) rfl rfl rfl rfl (fun _ => e_idxSn 0 hk rfl rfl Tryd.underlying69 sz44 rfl (by omega) _) fun a hk => ?_
      refine d3 6 hk rfl (by kernel_rfl) rfl rfl rfl rfl hS (fun w hS => r_ldR44 hk rfl hS hd16) fun a hk => ?_
      refine da4 7 hk rfl (by kernel_rfl) rfl rfl hS (a_call hk rfl rfl (c_fn hk rfl ok46) (c46 [] ⟨by decide, by simp⟩ none 0 _ rd_none (hG.ext hB)) ?_)
      rintro e w ⟨rfl, hE⟩
      refine ⟨_, rfl, fun a hk => ⟨range_ext hE hS, ?_⟩⟩
      have hS := range_ext hE hS
      have h_b5 := ext_at hE h_b5
      have h_b6 := ext_at hE h_b6
      have h_b7 := ext_at hE h_b7
      have hB := ext_trans hB hE
      rw [rootS_nil] at hk
      clear hE
      refine d0 8 hk rfl (by kernel_rfl) rfl rfl rfl rfl (fun _ => e_neA (l := l.getD 0 []) (r := ofD 2 []) (b := false) hk rfl rfl Tryd.underlying44 Tryd.underlying5 sz5 hd16 (by simp) eg44 (by rw [decide_eq_true h1]; rfl) _) fun a hk => ?_
      refine d0 9 hk rfl (by kernel_rfl) rfl rfl rfl rfl (fun _ => e_pickF hk rfl rfl _) fun a hk => ?_
      refine d0 10 hk rfl (by kernel_rfl) rfl rfl rfl rfl (fun _ => e_move hk rfl _) fun a hk => ?_
      refine d1 11 hk rfl (by kernel_rfl) rfl rfl rfl rfl (r_ld44 hk rfl h_b5 hold) fun a hk => ?_
      refine d0 12 hk rfl (by kernel_rfl) rfl rfl rfl rfl (fun _ => e_move hk rfl _) fun a hk => ?_
      refine d0 13 hk rfl (by kernel_rfl) rfl rfl rfl rfl (fun _ => e_idxSn 0 hk rfl rfl Tryd.underlying69 sz44 rfl (by omega) _) fun a hk => ?_
      refine d1 14 hk rfl (by kernel_rfl) rfl rfl rfl rfl (r_ldR44 hk rfl hS hd16) fun a hk => ?_
      refine d0 15 hk rfl (by kernel_rfl) rfl rfl rfl rfl (fun _ => e_neA (l := old) (r := l.getD 0 []) (b := false) hk rfl rfl Tryd.underlying44 Tryd.underlying5 sz5 hold hd16 eg44 (by rw [decide_eq_true h2]; rfl) _) fun a hk => ?_
      refine d0 16 hk rfl (by kernel_rfl) rfl rfl rfl rfl (fun _ => e_pickF hk rfl rfl _) fun a hk => ?_
      refine d0 17 hk rfl (by kernel_rfl) rfl rfl rfl rfl (fun _ => e_move hk rfl _) fun a hk => ?_
      refine d1 18 hk rfl (by kernel_rfl) rfl rfl rfl rfl (r_ld44 hk rfl h_b6 hrt) fun a hk => ?_
      refine d0 19 hk rfl (by kernel_rfl) rfl rfl rfl rfl (fun _ => e_move hk rfl _) fun a hk => ?_
      refine d0 20 hk rfl (by kernel_rfl) rfl rfl rfl rfl (fun _ => e_idxSn 0 hk rfl rfl Tryd.underlying69 sz44 rfl (by omega) _) fun a hk => ?_
      refine d1 21 hk rfl (by kernel_rfl) rfl rfl rfl rfl (r_ldR44 hk rfl hS hd16) fun a hk => ?_
      refine d0 22 hk rfl (by kernel_rfl) rfl rfl rfl rfl (fun _ => e_neA (l := rt) (r := l.getD 0 []) (b := false) hk rfl rfl Tryd.underlying44 Tryd.underlying5 sz5 hrt hd16 eg44 (by rw [decide_eq_true h3]; rfl) _) fun a hk => ?_
      refine d0 23 hk rfl (by kernel_rfl) rfl rfl rfl rfl (fun _ => e_pickF hk rfl rfl _) fun a hk => ?_
      refine okFin (by kernel_rfl) (hK7 _ _ ?_)
      refine cdF hk rfl ?_
      refine wp_skip (hK6 _ _ ?_)
      refine wp_seq_k fun K8 hK8 => ?_
      refine wp_region_lit ?_
      refine ls hk rfl rfl rfl (e_assign hk rfl _) fun a hk => ?_
      refine lnil (hK8 _ _ ?_)
      refine wp_ret ?_
      simp only [then_ret]
      exact ret1 hk rfl rfl ⟨by rw [hz], hB⟩
  · obtain ⟨n, rfl⟩ : ∃ k : Nat, n₀ = k := ⟨n₀.toNat, by omega⟩
    obtain ⟨m, rfl⟩ : ∃ k : Nat, m₀ = k := ⟨m₀.toNat, by omega⟩
    have hres := ext_some (old := old) (rt := rt) (n := n) (m := m) (l := l) (by omega) (by omega) (by omega)
    refine start 75 Tryd.func57 rfl rfl rfl fun a hk => ?_
    have hB : Ext w0 w0 := Below.refl _ _
    refine wp_seq_k fun K1 hK1 => ?_
    refine wp_region_lit ?_
    refine la hk rfl (a_box hk rfl rfl fun a w b5 hk G => ?_)
    have hg_b5 : w0.heap.size ≤ b5 := Nat.le_trans hB.size G.ge
    have hB := ext_trans hB G.ext
    have h_b5 := G.at_
    clear G
    refine la hk rfl (a_box hk rfl rfl fun a w b6 hk G => ?_)
    have n_b5_b6 : b5 ≠ b6 := G.ne h_b5
    have hg_b6 : w0.heap.size ≤ b6 := Nat.le_trans hB.size G.ge
    have h_b5 := ext_at G.ext h_b5
    have hB := ext_trans hB G.ext
    have h_b6 := G.at_
    clear G
    refine la hk rfl (a_box hk rfl rfl fun a w b7 hk G => ?_)
    have n_b5_b7 : b5 ≠ b7 := G.ne h_b5
    have n_b6_b7 : b6 ≠ b7 := G.ne h_b6
    have hg_b7 : w0.heap.size ≤ b7 := Nat.le_trans hB.size G.ge
    have h_b5 := ext_at G.ext h_b5
    have h_b6 := ext_at G.ext h_b6
    have hB := ext_trans hB G.ext
    have h_b7 := G.at_
    clear G
    refine ls hk rfl rfl rfl (e_assign hk rfl _) fun a hk => ?_
    refine lnil (hK1 _ _ ?_)
    refine wp_seq_k fun K2 hK2 => ?_
    refine wp_seq_k fun K3 hK3 => ?_
    refine wp_region_lit ?_
    refine ls hk rfl rfl rfl (r_ld1 hk rfl Tryd.underlying3 rfl h_b7) fun a hk => ?_
    refine ls hk rfl rfl rfl (e_lss (b := false) hk rfl rfl (decide_eq_false (by omega)) _) fun a hk => ?_
    refine ls hk rfl rfl rfl (e_move hk rfl _) fun a hk => ?_
    refine ls hk rfl rfl rfl (r_ld1 hk rfl Tryd.underlying3 rfl h_b7) fun a hk => ?_
    refine ls hk rfl rfl rfl (e_move hk rfl _) fun a hk => ?_
    refine ls hk rfl rfl rfl (e_gtr (b := false) hk rfl rfl (decide_eq_false (by omega)) _) fun a hk => ?_
    refine ls hk rfl rfl rfl (e_pickF hk rfl rfl _) fun a hk => ?_
    refine ls hk rfl rfl rfl (e_move hk rfl _) fun a hk => ?_
    refine ls hk rfl rfl rfl (e_move hk rfl _) fun a hk => ?_
    refine ls hk rfl rfl rfl (e_gtr (b := false) hk rfl rfl (decide_eq_false (by omega)) _) fun a hk => ?_
    refine ls hk rfl rfl rfl (e_pickF hk rfl rfl _) fun a hk => ?_
    refine lnil (hK3 _ _ ?_)
    refine cdF hk rfl ?_
    refine wp_skip (hK2 _ _ ?_)
    refine wp_seq_k fun K4 hK4 => ?_
    refine wp_seq_k fun K5 hK5 => ?_
    refine wp_region_lit ?_
    refine ls hk rfl rfl rfl (e_move hk rfl _) fun a hk => ?_
    refine ls hk rfl rfl rfl (e_eql (b := false) hk rfl rfl (decide_eq_false (by omega)) _) fun a hk => ?_
    refine lnil (hK5 _ _ ?_)
    refine cdF hk rfl ?_
    refine wp_skip (hK4 _ _ ?_)
    refine wp_seq_k fun K6 hK6 => ?_
    refine wp_region_lit ?_
    refine ls hk rfl rfl rfl (e_move hk rfl _) fun a hk => ?_
    refine ls hk rfl rfl rfl (e_buildS (cells := #[.slice adl l.length cl, I 0, I 0]) (pl := #[(0, 1), (1, 2)]) hk rfl zr141 Tryd.underlying141 (fun w => by kernel_rfl) rfl _) fun a hk => ?_
    refine la hk rfl (a_box hk rfl rfl fun a w b52 hk G => ?_)
    have n_b5_b52 : b5 ≠ b52 := G.ne h_b5
    have n_b6_b52 : b6 ≠ b52 := G.ne h_b6
    have n_b7_b52 : b7 ≠ b52 := G.ne h_b7
    have hg_b52 : w0.heap.size ≤ b52 := Nat.le_trans hB.size G.ge
    have h_b5 := ext_at G.ext h_b5
    have h_b6 := ext_at G.ext h_b6
    have h_b7 := ext_at G.ext h_b7
    have hB := ext_trans hB G.ext
    have h_b52 := G.at_
    clear G
    refine la hk rfl (a_alloc hk rfl zr139 fun a w b11 hk G => ?_)
    have n_b5_b11 : b5 ≠ b11 := G.ne h_b5
    have n_b6_b11 : b6 ≠ b11 := G.ne h_b6
    have n_b7_b11 : b7 ≠ b11 := G.ne h_b7
    have n_b52_b11 : b52 ≠ b11 := G.ne h_b52
    have hg_b11 : w0.heap.size ≤ b11 := Nat.le_trans hB.size G.ge
    have h_b5 := ext_at G.ext h_b5
    have h_b6 := ext_at G.ext h_b6
    have h_b7 := ext_at G.ext h_b7
    have h_b52 := ext_at G.ext h_b52
    have hB := ext_trans hB G.ext
    have h_b11 := G.at_
    clear G
    refine la hk rfl (a_st1 hk rfl rfl rfl sz139 h_b11 fun a w hk W => ?_)
    have h_b5 := W.keep n_b5_b11 h_b5
    have h_b6 := W.keep n_b6_b11 h_b6
    have h_b7 := W.keep n_b7_b11 h_b7
    have h_b52 := W.keep n_b52_b11 h_b52
    have hB := W.below hB hg_b11
    have h_b11 := W.at_
    clear W
    refine lnil (hK6 _ _ ?_)
    refine wp_seq_k fun K7 hK7 => ?_
    refine wp_region_lit ?_
    refine ls hk rfl rfl rfl (e_move hk rfl _) fun a hk => ?_
    refine ls hk rfl rfl rfl (e_func hk rfl rfl _) fun a hk => ?_
    refine la hk rfl (a_call hk rfl rfl (c_fn hk rfl ok112) (w112 l n m (by omega) (by omega) adl cl b7 b11 b52 _ (by have h := h_b52; rw [tkC, Nat.zero_min]; exact h) (hRl.ext hB) (fun b o e h => by have := hol b o e; omega) hln h_b7 h_b11 n_b7_b52 (Ne.symm n_b52_b11) (fun w' h => hG.ext (h.below hB hB.size (fun k hk e => by rw [e] at hk; exact absurd hg_b52 (Nat.not_le.2 hk))))) ?_)
    rintro e w ⟨x, cnt, rfl, hxo, hE, hbt2, hxr, hxc, hxold⟩
    refine ⟨_, rfl, fun a hk => ?_⟩
    have hB2 := hE.below hB hB.size (fun k hk e => by rw [e] at hk; exact absurd hg_b52 (Nat.not_le.2 hk))
    have h_b5 := hE.at_ n_b5_b52 h_b5
    have h_b6 := hE.at_ n_b6_b52 h_b6
    have h_b7 := hE.at_ n_b7_b52 h_b7
    have h_b11 := hE.at_ (Ne.symm n_b52_b11) h_b11
    have h_b52 := hbt2
    clear hB
    have hB := hB2
    clear hE hB2 hbt2
    refine la hk rfl (a_alloc hk rfl zr147 fun a w b12 hk G => ?_)
    have n_b5_b12 : b5 ≠ b12 := G.ne h_b5
    have n_b6_b12 : b6 ≠ b12 := G.ne h_b6
    have n_b7_b12 : b7 ≠ b12 := G.ne h_b7
    have n_b52_b12 : b52 ≠ b12 := G.ne h_b52
    have n_b11_b12 : b11 ≠ b12 := G.ne h_b11
    have hg_b12 : w0.heap.size ≤ b12 := Nat.le_trans hB.size G.ge
    have h_b5 := ext_at G.ext h_b5
    have h_b6 := ext_at G.ext h_b6
    have h_b7 := ext_at G.ext h_b7
    have h_b52 := ext_at G.ext h_b52
    have h_b11 := ext_at G.ext h_b11
    have hB := ext_trans hB G.ext
    have h_b12 := G.at_
    clear G
    refine la hk rfl (a_storeB (cs' := gc x) hk rfl rfl (gc_one _) (by rw [sz147, gc_size _ hxo]) h_b12 (by rw [gc_size _ hxo]; simp [Value.cells]) fun a w hk W => ?_)
    have h_b5 := W.keep n_b5_b12 h_b5
    have h_b6 := W.keep n_b6_b12 h_b6
    have h_b7 := W.keep n_b7_b12 h_b7
    have h_b52 := W.keep n_b52_b12 h_b52
    have h_b11 := W.keep n_b11_b12 h_b11
    have hB := W.below hB hg_b12
    have h_b12 := W.at_
    clear W
    refine lnil (hK7 _ _ ?_)
    refine wp_seq_k fun K8 hK8 => ?_
    have hJ8 : ∀ (a : Act) (w : World), (∃ (g : Gr), Kn a 75 [(5, .pointer (some ⟨b5, 0, none⟩)), (6, .pointer (some ⟨b6, 0, none⟩)), (11, .pointer (some ⟨b11, 0, none⟩)), (12, .pointer (some ⟨b12, 0, none⟩))] ∧ (Ext w0 w) ∧ (w.heap[b5]? = some (.cells (old.map B).toArray 44 (0, 0))) ∧ (w.heap[b6]? = some (.cells (rt.map B).toArray 44 (0, 0))) ∧ (w.heap[b11]? = some (.cells #[.pointer (some ⟨b52, 0, none⟩)] 139 (0, 0))) ∧ (w.heap[b52]? = some (.cells (tkC adl cl l cnt) 141 (0, 0))) ∧ (w.heap[b12]? = some (.cells (gc g) 147 (0, 0))) ∧ (g.ok) ∧ (g.root = (chkS (farB n) (fun _ => zD) l 0 m 0).1) ∧ (g.old = (if n = 0 then ofD 2 [] else (oldC (farB n) l n 0 m 0)))) → K8 a w := by
      clear hk hB h_b5 h_b6 h_b11 h_b52 h_b12
      intro a w ⟨g, hk, hB, h_b5, h_b6, h_b11, h_b52, h_b12, hgo, hgr, hgold⟩
      refine hK8 _ _ ?_
      refine wp_seq_k fun K9 hK9 => ?_
      refine wp_seq_k fun K10 hK10 => ?_
      by_cases hcnt : cnt = l.length
      by_cases hr : g.root = rt
      by_cases ho : g.old = old
      · have hz : extR old rt n m l = 0 := by rw [hres, ← hxc, ← hgr, ← hgold, if_pos ⟨hcnt, hr, ho⟩]
        refine wp_region_lit ?_
        refine ls hk rfl rfl rfl (r_ld1 hk rfl Tryd.underlying139 rfl h_b11) fun a hk => ?_
        refine la hk rfl (a_call hk rfl rfl (c_fn hk rfl ok110) (c110 l adl cl b52 cnt _ h_b52) ?_)
        rintro e w ⟨rfl, hE⟩
        refine ⟨_, rfl, fun a hk => ?_⟩
        have h_b5 := ext_at hE h_b5
        have h_b6 := ext_at hE h_b6
        have h_b11 := ext_at hE h_b11
        have h_b52 := ext_at hE h_b52
        have h_b12 := ext_at hE h_b12
        have hB := ext_trans hB hE
        clear hE
        rw [decide_eq_true hcnt] at hk
        refine ls hk rfl rfl rfl (e_not hk rfl _) fun a hk => ?_
        refine ls hk rfl rfl rfl (e_move hk rfl _) fun a hk => ?_
        refine ls hk rfl rfl rfl (e_field (off := 0) hk rfl Tryd.underlying147 rfl rfl nz44 _) fun a hk => ?_
        refine ls hk rfl rfl rfl (r_ldR44 hk rfl (gc_root h_b12) hgo.1) fun a hk => ?_
        refine ls hk rfl rfl rfl (r_ld44 hk rfl h_b6 hrt) fun a hk => ?_
        refine ls hk rfl rfl rfl (e_neA (l := g.root) (r := rt) (b := false) hk rfl rfl Tryd.underlying44 Tryd.underlying5 sz5 hgo.1 hrt eg44 (by simp [hr]) _) fun a hk => ?_
        refine ls hk rfl rfl rfl (e_pickF hk rfl rfl _) fun a hk => ?_
        refine ls hk rfl rfl rfl (e_move hk rfl _) fun a hk => ?_
        refine ls hk rfl rfl rfl (e_field (off := 16) hk rfl Tryd.underlying147 rfl rfl nz44 _) fun a hk => ?_
        refine ls hk rfl rfl rfl (r_ldR44 hk rfl (gc_old hgo h_b12) hgo.2) fun a hk => ?_
        refine ls hk rfl rfl rfl (r_ld44 hk rfl h_b5 hold) fun a hk => ?_
        refine ls hk rfl rfl rfl (e_neA (l := g.old) (r := old) (b := false) hk rfl rfl Tryd.underlying44 Tryd.underlying5 sz5 hgo.2 hold eg44 (by simp [ho]) _) fun a hk => ?_
        refine ls hk rfl rfl rfl (e_pickF hk rfl rfl _) fun a hk => ?_
        refine lnil (hK10 _ _ ?_)
        refine cdF hk rfl ?_
        refine wp_skip (hK9 _ _ ?_)
        refine wp_seq_k fun K11 hK11 => ?_
        refine wp_region_lit ?_
        refine ls hk rfl rfl rfl (e_assign hk rfl _) fun a hk => ?_
        refine lnil (hK11 _ _ ?_)
        refine wp_ret ?_
        first
          | exact ret1 hk rfl rfl ⟨by rw [hz], hB⟩
          | (simp only [then_ret]; exact ret1 hk rfl rfl ⟨by rw [hz], hB⟩)
      · have hz : extR old rt n m l = 15 := by rw [hres, ← hxc, ← hgr, ← hgold, if_neg (fun h => ho h.2.2)]
        refine wp_region_lit ?_
        refine ls hk rfl rfl rfl (r_ld1 hk rfl Tryd.underlying139 rfl h_b11) fun a hk => ?_
        refine la hk rfl (a_call hk rfl rfl (c_fn hk rfl ok110) (c110 l adl cl b52 cnt _ h_b52) ?_)
        rintro e w ⟨rfl, hE⟩
        refine ⟨_, rfl, fun a hk => ?_⟩
        have h_b5 := ext_at hE h_b5
        have h_b6 := ext_at hE h_b6
        have h_b11 := ext_at hE h_b11
        have h_b52 := ext_at hE h_b52
        have h_b12 := ext_at hE h_b12
        have hB := ext_trans hB hE
        clear hE
        rw [decide_eq_true hcnt] at hk
        refine ls hk rfl rfl rfl (e_not hk rfl _) fun a hk => ?_
        refine ls hk rfl rfl rfl (e_move hk rfl _) fun a hk => ?_
        refine ls hk rfl rfl rfl (e_field (off := 0) hk rfl Tryd.underlying147 rfl rfl nz44 _) fun a hk => ?_
        refine ls hk rfl rfl rfl (r_ldR44 hk rfl (gc_root h_b12) hgo.1) fun a hk => ?_
        refine ls hk rfl rfl rfl (r_ld44 hk rfl h_b6 hrt) fun a hk => ?_
        refine ls hk rfl rfl rfl (e_neA (l := g.root) (r := rt) (b := false) hk rfl rfl Tryd.underlying44 Tryd.underlying5 sz5 hgo.1 hrt eg44 (by simp [hr]) _) fun a hk => ?_
        refine ls hk rfl rfl rfl (e_pickF hk rfl rfl _) fun a hk => ?_
        refine ls hk rfl rfl rfl (e_move hk rfl _) fun a hk => ?_
        refine ls hk rfl rfl rfl (e_field (off := 16) hk rfl Tryd.underlying147 rfl rfl nz44 _) fun a hk => ?_
        refine ls hk rfl rfl rfl (r_ldR44 hk rfl (gc_old hgo h_b12) hgo.2) fun a hk => ?_
        refine ls hk rfl rfl rfl (r_ld44 hk rfl h_b5 hold) fun a hk => ?_
        refine ls hk rfl rfl rfl (e_neA (l := g.old) (r := old) (b := true) hk rfl rfl Tryd.underlying44 Tryd.underlying5 sz5 hgo.2 hold eg44 (by simp [ho]) _) fun a hk => ?_
        refine ls hk rfl rfl rfl (e_pickF hk rfl rfl _) fun a hk => ?_
        refine lnil (hK10 _ _ ?_)
        refine cdT hk rfl ?_
        refine wp_seq_k fun K12 hK12 => ?_
        refine wp_region_lit ?_
        refine ls hk rfl rfl rfl (e_assign hk rfl _) fun a hk => ?_
        refine lnil (hK12 _ _ ?_)
        refine wp_ret ?_
        first
          | exact ret1 hk rfl rfl ⟨by rw [hz], hB⟩
          | (simp only [then_ret]; exact ret1 hk rfl rfl ⟨by rw [hz], hB⟩)
      · have hz : extR old rt n m l = 15 := by rw [hres, ← hxc, ← hgr, ← hgold, if_neg (fun h => hr h.2.1)]
        refine wp_region_lit ?_
        refine ls hk rfl rfl rfl (r_ld1 hk rfl Tryd.underlying139 rfl h_b11) fun a hk => ?_
        refine la hk rfl (a_call hk rfl rfl (c_fn hk rfl ok110) (c110 l adl cl b52 cnt _ h_b52) ?_)
        rintro e w ⟨rfl, hE⟩
        refine ⟨_, rfl, fun a hk => ?_⟩
        have h_b5 := ext_at hE h_b5
        have h_b6 := ext_at hE h_b6
        have h_b11 := ext_at hE h_b11
        have h_b52 := ext_at hE h_b52
        have h_b12 := ext_at hE h_b12
        have hB := ext_trans hB hE
        clear hE
        rw [decide_eq_true hcnt] at hk
        refine ls hk rfl rfl rfl (e_not hk rfl _) fun a hk => ?_
        refine ls hk rfl rfl rfl (e_move hk rfl _) fun a hk => ?_
        refine ls hk rfl rfl rfl (e_field (off := 0) hk rfl Tryd.underlying147 rfl rfl nz44 _) fun a hk => ?_
        refine ls hk rfl rfl rfl (r_ldR44 hk rfl (gc_root h_b12) hgo.1) fun a hk => ?_
        refine ls hk rfl rfl rfl (r_ld44 hk rfl h_b6 hrt) fun a hk => ?_
        refine ls hk rfl rfl rfl (e_neA (l := g.root) (r := rt) (b := true) hk rfl rfl Tryd.underlying44 Tryd.underlying5 sz5 hgo.1 hrt eg44 (by simp [hr]) _) fun a hk => ?_
        refine ls hk rfl rfl rfl (e_pickF hk rfl rfl _) fun a hk => ?_
        refine ls hk rfl rfl rfl (e_move hk rfl _) fun a hk => ?_
        refine lno hk rfl rfl rfl fun a hk => ?_
        refine lno hk rfl rfl rfl fun a hk => ?_
        refine lno hk rfl rfl rfl fun a hk => ?_
        refine lno hk rfl rfl rfl fun a hk => ?_
        refine ls hk rfl rfl rfl (e_pickT hk rfl rfl _) fun a hk => ?_
        refine lnil (hK10 _ _ ?_)
        refine cdT hk rfl ?_
        refine wp_seq_k fun K13 hK13 => ?_
        refine wp_region_lit ?_
        refine ls hk rfl rfl rfl (e_assign hk rfl _) fun a hk => ?_
        refine lnil (hK13 _ _ ?_)
        refine wp_ret ?_
        first
          | exact ret1 hk rfl rfl ⟨by rw [hz], hB⟩
          | (simp only [then_ret]; exact ret1 hk rfl rfl ⟨by rw [hz], hB⟩)
      · have hz : extR old rt n m l = 15 := by rw [hres, ← hxc, if_neg (fun h => hcnt h.1)]
        refine wp_region_lit ?_
        refine ls hk rfl rfl rfl (r_ld1 hk rfl Tryd.underlying139 rfl h_b11) fun a hk => ?_
        refine la hk rfl (a_call hk rfl rfl (c_fn hk rfl ok110) (c110 l adl cl b52 cnt _ h_b52) ?_)
        rintro e w ⟨rfl, hE⟩
        refine ⟨_, rfl, fun a hk => ?_⟩
        have h_b5 := ext_at hE h_b5
        have h_b6 := ext_at hE h_b6
        have h_b11 := ext_at hE h_b11
        have h_b52 := ext_at hE h_b52
        have h_b12 := ext_at hE h_b12
        have hB := ext_trans hB hE
        clear hE
        rw [decide_eq_false hcnt] at hk
        refine ls hk rfl rfl rfl (e_not hk rfl _) fun a hk => ?_
        refine ls hk rfl rfl rfl (e_move hk rfl _) fun a hk => ?_
        refine lno hk rfl rfl rfl fun a hk => ?_
        refine lno hk rfl rfl rfl fun a hk => ?_
        refine lno hk rfl rfl rfl fun a hk => ?_
        refine lno hk rfl rfl rfl fun a hk => ?_
        refine ls hk rfl rfl rfl (e_pickT hk rfl rfl _) fun a hk => ?_
        refine ls hk rfl rfl rfl (e_move hk rfl _) fun a hk => ?_
        refine lno hk rfl rfl rfl fun a hk => ?_
        refine lno hk rfl rfl rfl fun a hk => ?_
        refine lno hk rfl rfl rfl fun a hk => ?_
        refine lno hk rfl rfl rfl fun a hk => ?_
        refine ls hk rfl rfl rfl (e_pickT hk rfl rfl _) fun a hk => ?_
        refine lnil (hK10 _ _ ?_)
        refine cdT hk rfl ?_
        refine wp_seq_k fun K14 hK14 => ?_
        refine wp_region_lit ?_
        refine ls hk rfl rfl rfl (e_assign hk rfl _) fun a hk => ?_
        refine lnil (hK14 _ _ ?_)
        refine wp_ret ?_
        first
          | exact ret1 hk rfl rfl ⟨by rw [hz], hB⟩
          | (simp only [then_ret]; exact ret1 hk rfl rfl ⟨by rw [hz], hB⟩)
    refine wp_seq_k fun K15 hK15 => ?_
    refine wp_region_lit ?_
    refine ls hk rfl rfl rfl (r_ld1 hk rfl Tryd.underlying3 rfl h_b7) fun a hk => ?_
    refine ls hk rfl rfl rfl (e_eql hk rfl rfl rfl _) fun a hk => ?_
    refine lnil (hK15 _ _ ?_)
    refine cdB hk rfl (fun hb => ?_) (fun hb => ?_)
    · have hn0 : n = 0 := by have := of_decide_eq_true hb; omega
      have hgo : (⟨x.root, ofD 2 [], x.has⟩ : Gr).ok := ⟨hxo.1, by simp⟩
      have hgr : (⟨x.root, ofD 2 [], x.has⟩ : Gr).root = (chkS (farB n) (fun _ => zD) l 0 m 0).1 := hxr
      have hgold : (⟨x.root, ofD 2 [], x.has⟩ : Gr).old = (if n = 0 then ofD 2 [] else (oldC (farB n) l n 0 m 0)) := by rw [if_pos hn0]
      refine wp_region_lit ?_
      refine la hk rfl (a_call hk rfl rfl (c_fn hk rfl ok46) (c46 [] ⟨by decide, by simp⟩ none 0 _ rd_none (hG.ext hB)) ?_)
      rintro e w ⟨rfl, hE⟩
      refine ⟨_, rfl, fun a hk => ?_⟩
      have h_b5 := ext_at hE h_b5
      have h_b6 := ext_at hE h_b6
      have h_b7 := ext_at hE h_b7
      have h_b52 := ext_at hE h_b52
      have h_b11 := ext_at hE h_b11
      have h_b12 := ext_at hE h_b12
      have hB := ext_trans hB hE
      rw [rootS_nil] at hk
      clear hE
      refine ls hk rfl rfl rfl (e_field (off := 16) hk rfl Tryd.underlying147 rfl rfl nz44 _) fun a hk => ?_
      refine la hk rfl (a_storeR (xs := (ofD 2 []).map B) hk rfl rfl (bytes_one _) (by rw [sz44]; simp) h_b12 (by rw [gc_size _ hxo]; simp) fun a w hk W => ?_)
      have h_b5 := W.keep n_b5_b12 h_b5
      have h_b6 := W.keep n_b6_b12 h_b6
      have h_b7 := W.keep n_b7_b12 h_b7
      have h_b52 := W.keep n_b52_b12 h_b52
      have h_b11 := W.keep n_b11_b12 h_b11
      have hB := W.below hB hg_b12
      have h_b12 := W.at_
      clear W
      rw [gc_set _ hxo _ (by simp)] at h_b12
      refine lnil (hJ8 _ _ ⟨_, hk.sub _ ⟨rfl, rfl, rfl, rfl, trivial⟩, hB, h_b5, h_b6, h_b11, h_b52, h_b12, hgo, hgr, hgold⟩)
    · have hn0 : ¬ n = 0 := by have := of_decide_eq_false hb; omega
      have hgo := hxo
      have hgr := hxr
      have hgold : x.old = (if n = 0 then ofD 2 [] else (oldC (farB n) l n 0 m 0)) := by rw [if_neg hn0]; exact hxold (by omega)
      refine wp_skip (hJ8 _ _ ⟨_, hk.sub _ ⟨rfl, rfl, rfl, rfl, trivial⟩, hB, h_b5, h_b6, h_b11, h_b52, h_b12, hgo, hgr, hgold⟩)

set_option maxRecDepth 4000 in
set_option maxHeartbeats 1000000 in
theorem c58 (old rt : List UInt8) (hold : old.length = 16) (hrt : rt.length = 16) (n₀ m₀ : Int) (l : List (List UInt8)) (adl : Option Addr) (cl : Nat) (w0 : World) (hRl : Rdg w0 adl l.length cl l) (hln : l.length ≤ 1152921504606846976) (hG : GR w0) (hn64 : is64 n₀) (hm64 : is64 m₀) :
    Calls Tryd.prog 58 #[D old, D rt, I n₀, I m₀, .slice adl l.length cl] w0 fun e w' => e = .returned (I (extR old rt n₀ m₀ l)) ∧ Ext w0 w' := by
  obtain ⟨hn1, hn2⟩ := hn64
  obtain ⟨hm1, hm2⟩ := hm64
  rcases (by omega : n₀ < 0 ∨ (¬ n₀ < 0 ∧ n₀ > m₀) ∨ (¬ n₀ < 0 ∧ ¬ n₀ > m₀ ∧ m₀ > 1073741824) ∨ (¬ n₀ < 0 ∧ ¬ n₀ > m₀ ∧ ¬ m₀ > 1073741824 ∧ m₀ = 0 ∧ ¬ l.length = 1) ∨ (¬ n₀ < 0 ∧ ¬ n₀ > m₀ ∧ ¬ m₀ > 1073741824 ∧ m₀ = 0 ∧ l.length = 1) ∨ (¬ n₀ < 0 ∧ ¬ n₀ > m₀ ∧ ¬ m₀ > 1073741824 ∧ m₀ ≠ 0)) with hc | hc | hc | ⟨hc, hc2, hc3, hm0, hl1⟩ | ⟨hc, hc2, hc3, hm0, hl1⟩ | hc
  · refine start 76 Tryd.func58 rfl rfl rfl fun a hk => ?_
    have hB : Ext w0 w0 := Below.refl _ _
    refine wp_seq_k fun K1 hK1 => ?_
    refine wp_region_lit ?_
    refine la hk rfl (a_box hk rfl rfl fun a w b5 hk G => ?_)
    have hg_b5 : w0.heap.size ≤ b5 := Nat.le_trans hB.size G.ge
    have hB := ext_trans hB G.ext
    have h_b5 := G.at_
    clear G
    refine la hk rfl (a_box hk rfl rfl fun a w b6 hk G => ?_)
    have n_b5_b6 : b5 ≠ b6 := G.ne h_b5
    have hg_b6 : w0.heap.size ≤ b6 := Nat.le_trans hB.size G.ge
    have h_b5 := ext_at G.ext h_b5
    have hB := ext_trans hB G.ext
    have h_b6 := G.at_
    clear G
    refine ls hk rfl rfl rfl (e_assign hk rfl _) fun a hk => ?_
    refine lnil (hK1 _ _ ?_)
    refine wp_seq_k fun K2 hK2 => ?_
    refine wp_seq_k fun K3 hK3 => ?_
    refine wp_region_lit ?_
    refine ls hk rfl rfl rfl (e_move hk rfl _) fun a hk => ?_
    refine ls hk rfl rfl rfl (e_lss (b := true) hk rfl rfl (decide_eq_true (by omega)) _) fun a hk => ?_
    refine ls hk rfl rfl rfl (e_move hk rfl _) fun a hk => ?_
    refine lno hk rfl rfl rfl fun a hk => ?_
    refine lno hk rfl rfl rfl fun a hk => ?_
    refine lno hk rfl rfl rfl fun a hk => ?_
    refine ls hk rfl rfl rfl (e_pickT hk rfl rfl _) fun a hk => ?_
    refine ls hk rfl rfl rfl (e_move hk rfl _) fun a hk => ?_
    refine lno hk rfl rfl rfl fun a hk => ?_
    refine lno hk rfl rfl rfl fun a hk => ?_
    refine ls hk rfl rfl rfl (e_pickT hk rfl rfl _) fun a hk => ?_
    refine lnil (hK3 _ _ ?_)
    refine cdT hk rfl ?_
    refine wp_seq_k fun K4 hK4 => ?_
    refine wp_region_lit ?_
    refine ls hk rfl rfl rfl (e_assign hk rfl _) fun a hk => ?_
    refine lnil (hK4 _ _ ?_)
    refine wp_ret ?_
    simp only [then_ret]
    exact ret1 hk rfl rfl ⟨by rw [ext_bad (by omega)], hB⟩
  · refine start 76 Tryd.func58 rfl rfl rfl fun a hk => ?_
    have hB : Ext w0 w0 := Below.refl _ _
    refine wp_seq_k fun K1 hK1 => ?_
    refine wp_region_lit ?_
    refine la hk rfl (a_box hk rfl rfl fun a w b5 hk G => ?_)
    have hg_b5 : w0.heap.size ≤ b5 := Nat.le_trans hB.size G.ge
    have hB := ext_trans hB G.ext
    have h_b5 := G.at_
    clear G
    refine la hk rfl (a_box hk rfl rfl fun a w b6 hk G => ?_)
    have n_b5_b6 : b5 ≠ b6 := G.ne h_b5
    have hg_b6 : w0.heap.size ≤ b6 := Nat.le_trans hB.size G.ge
    have h_b5 := ext_at G.ext h_b5
    have hB := ext_trans hB G.ext
    have h_b6 := G.at_
    clear G
    refine ls hk rfl rfl rfl (e_assign hk rfl _) fun a hk => ?_
    refine lnil (hK1 _ _ ?_)
    refine wp_seq_k fun K2 hK2 => ?_
    refine wp_seq_k fun K3 hK3 => ?_
    refine wp_region_lit ?_
    refine ls hk rfl rfl rfl (e_move hk rfl _) fun a hk => ?_
    refine ls hk rfl rfl rfl (e_lss (b := false) hk rfl rfl (decide_eq_false (by omega)) _) fun a hk => ?_
    refine ls hk rfl rfl rfl (e_move hk rfl _) fun a hk => ?_
    refine ls hk rfl rfl rfl (e_move hk rfl _) fun a hk => ?_
    refine ls hk rfl rfl rfl (e_move hk rfl _) fun a hk => ?_
    refine ls hk rfl rfl rfl (e_gtr (b := true) hk rfl rfl (decide_eq_true (by omega)) _) fun a hk => ?_
    refine ls hk rfl rfl rfl (e_pickF hk rfl rfl _) fun a hk => ?_
    refine ls hk rfl rfl rfl (e_move hk rfl _) fun a hk => ?_
    refine lno hk rfl rfl rfl fun a hk => ?_
    refine lno hk rfl rfl rfl fun a hk => ?_
    refine ls hk rfl rfl rfl (e_pickT hk rfl rfl _) fun a hk => ?_
    refine lnil (hK3 _ _ ?_)
    refine cdT hk rfl ?_
    refine wp_seq_k fun K4 hK4 => ?_
    refine wp_region_lit ?_
    refine ls hk rfl rfl rfl (e_assign hk rfl _) fun a hk => ?_
    refine lnil (hK4 _ _ ?_)
    refine wp_ret ?_
    simp only [then_ret]
    exact ret1 hk rfl rfl ⟨by rw [ext_bad (by omega)], hB⟩
  · refine start 76 Tryd.func58 rfl rfl rfl fun a hk => ?_
    have hB : Ext w0 w0 := Below.refl _ _
    refine wp_seq_k fun K1 hK1 => ?_
    refine wp_region_lit ?_
    refine la hk rfl (a_box hk rfl rfl fun a w b5 hk G => ?_)
    have hg_b5 : w0.heap.size ≤ b5 := Nat.le_trans hB.size G.ge
    have hB := ext_trans hB G.ext
    have h_b5 := G.at_
    clear G
    refine la hk rfl (a_box hk rfl rfl fun a w b6 hk G => ?_)
    have n_b5_b6 : b5 ≠ b6 := G.ne h_b5
    have hg_b6 : w0.heap.size ≤ b6 := Nat.le_trans hB.size G.ge
    have h_b5 := ext_at G.ext h_b5
    have hB := ext_trans hB G.ext
    have h_b6 := G.at_
    clear G
    refine ls hk rfl rfl rfl (e_assign hk rfl _) fun a hk => ?_
    refine lnil (hK1 _ _ ?_)
    refine wp_seq_k fun K2 hK2 => ?_
    refine wp_seq_k fun K3 hK3 => ?_
    refine wp_region_lit ?_
    refine ls hk rfl rfl rfl (e_move hk rfl _) fun a hk => ?_
    refine ls hk rfl rfl rfl (e_lss (b := false) hk rfl rfl (decide_eq_false (by omega)) _) fun a hk => ?_
    refine ls hk rfl rfl rfl (e_move hk rfl _) fun a hk => ?_
    refine ls hk rfl rfl rfl (e_move hk rfl _) fun a hk => ?_
    refine ls hk rfl rfl rfl (e_move hk rfl _) fun a hk => ?_
    refine ls hk rfl rfl rfl (e_gtr (b := false) hk rfl rfl (decide_eq_false (by omega)) _) fun a hk => ?_
    refine ls hk rfl rfl rfl (e_pickF hk rfl rfl _) fun a hk => ?_
    refine ls hk rfl rfl rfl (e_move hk rfl _) fun a hk => ?_
    refine ls hk rfl rfl rfl (e_move hk rfl _) fun a hk => ?_
    refine ls hk rfl rfl rfl (e_gtr (b := true) hk rfl rfl (decide_eq_true (by omega)) _) fun a hk => ?_
    refine ls hk rfl rfl rfl (e_pickF hk rfl rfl _) fun a hk => ?_
    refine lnil (hK3 _ _ ?_)
    refine cdT hk rfl ?_
    refine wp_seq_k fun K4 hK4 => ?_
    refine wp_region_lit ?_
    refine ls hk rfl rfl rfl (e_assign hk rfl _) fun a hk => ?_
    refine lnil (hK4 _ _ ?_)
    refine wp_ret ?_
    simp only [then_ret]
    exact ret1 hk rfl rfl ⟨by rw [ext_bad (by omega)], hB⟩
  · obtain ⟨n, rfl⟩ : ∃ k : Nat, n₀ = k := ⟨n₀.toNat, by omega⟩
    obtain ⟨m, rfl⟩ : ∃ k : Nat, m₀ = k := ⟨m₀.toNat, by omega⟩
    have hz : extR old rt n m l = 15 := by rw [ext_none (by omega) (by omega), if_neg (fun h => hl1 h.1)]
    refine start 76 Tryd.func58 rfl rfl rfl fun a hk => ?_
    have hB : Ext w0 w0 := Below.refl _ _
    refine wp_seq_k fun K1 hK1 => ?_
    refine wp_region_lit ?_
    refine la hk rfl (a_box hk rfl rfl fun a w b5 hk G => ?_)
    have hg_b5 : w0.heap.size ≤ b5 := Nat.le_trans hB.size G.ge
    have hB := ext_trans hB G.ext
    have h_b5 := G.at_
    clear G
    refine la hk rfl (a_box hk rfl rfl fun a w b6 hk G => ?_)
    have n_b5_b6 : b5 ≠ b6 := G.ne h_b5
    have hg_b6 : w0.heap.size ≤ b6 := Nat.le_trans hB.size G.ge
    have h_b5 := ext_at G.ext h_b5
    have hB := ext_trans hB G.ext
    have h_b6 := G.at_
    clear G
    refine ls hk rfl rfl rfl (e_assign hk rfl _) fun a hk => ?_
    refine lnil (hK1 _ _ ?_)
    refine wp_seq_k fun K2 hK2 => ?_
    refine wp_seq_k fun K3 hK3 => ?_
    refine wp_region_lit ?_
    refine ls hk rfl rfl rfl (e_move hk rfl _) fun a hk => ?_
    refine ls hk rfl rfl rfl (e_lss (b := false) hk rfl rfl (decide_eq_false (by omega)) _) fun a hk => ?_
    refine ls hk rfl rfl rfl (e_move hk rfl _) fun a hk => ?_
    refine ls hk rfl rfl rfl (e_move hk rfl _) fun a hk => ?_
    refine ls hk rfl rfl rfl (e_move hk rfl _) fun a hk => ?_
    refine ls hk rfl rfl rfl (e_gtr (b := false) hk rfl rfl (decide_eq_false (by omega)) _) fun a hk => ?_
    refine ls hk rfl rfl rfl (e_pickF hk rfl rfl _) fun a hk => ?_
    refine ls hk rfl rfl rfl (e_move hk rfl _) fun a hk => ?_
    refine ls hk rfl rfl rfl (e_move hk rfl _) fun a hk => ?_
    refine ls hk rfl rfl rfl (e_gtr (b := false) hk rfl rfl (decide_eq_false (by omega)) _) fun a hk => ?_
    refine ls hk rfl rfl rfl (e_pickF hk rfl rfl _) fun a hk => ?_
    refine lnil (hK3 _ _ ?_)
    refine cdF hk rfl ?_
    refine wp_skip (hK2 _ _ ?_)
    refine wp_seq_k fun K4 hK4 => ?_
    refine wp_region_lit ?_
    refine ls hk rfl rfl rfl (e_buildA (cells := #[I (0 : Nat), I (0 : Nat)]) hk rfl zr66 Tryd.underlying66 sz3 rfl _) fun a hk => ?_
    refine la hk rfl (a_lit (cells := #[I (0 : Nat), I (0 : Nat)]) (sz := 2) (by_ := 16) hk rfl rfl Tryd.underlying67 el66 (by decide) (by decide) (lit66 _ 0 0) rfl fun a w bl hk GL => ?_)
    have h_b5 := ext_at GL.ext h_b5
    have h_b6 := ext_at GL.ext h_b6
    have hRp : Rdp w (some ⟨bl, 0, none⟩) 1 1 [(0, 0)] := Rd.of_block GL.at_ rfl (Nat.le_refl _) (fun i hi => by rw [Nat.zero_add]; simp [pairs])
    have hB := ext_trans hB GL.ext
    clear GL
    refine ls hk rfl rfl rfl (e_assign hk rfl _) fun a hk => ?_
    refine lnil (hK4 _ _ ?_)
    refine wp_seq_k fun K5 hK5 => ?_
    refine wp_seq_k fun K6 hK6 => ?_
    refine wp_region_lit ?_
    refine ls hk rfl rfl rfl (e_move hk rfl _) fun a hk => ?_
    refine ls hk rfl rfl rfl (e_gtr (b := false) hk rfl rfl (decide_eq_false (by omega)) _) fun a hk => ?_
    refine lnil (hK6 _ _ ?_)
    refine cdF hk rfl ?_
    refine wp_skip (hK5 _ _ ?_)
    refine wp_seq_k fun K7 hK7 => ?_
    refine wp_seq_k fun K8 hK8 => ?_
    refine wp_region_lit ?_
    refine ls hk rfl rfl rfl (e_move hk rfl _) fun a hk => ?_
    refine ls hk rfl rfl rfl (e_lenS hk rfl Tryd.underlying67 _) fun a hk => ?_
    refine ls hk rfl rfl rfl (e_move hk rfl _) fun a hk => ?_
    refine ls hk rfl rfl rfl (e_lenS hk rfl Tryd.underlying69 _) fun a hk => ?_
    refine ls hk rfl rfl rfl (e_neq (b := true) hk rfl rfl (by simp; omega) _) fun a hk => ?_
    refine lnil (hK8 _ _ ?_)
    refine cdT hk rfl ?_
    refine wp_seq_k fun K9 hK9 => ?_
    refine wp_region_lit ?_
    refine ls hk rfl rfl rfl (e_assign hk rfl _) fun a hk => ?_
    refine lnil (hK9 _ _ ?_)
    refine wp_ret ?_
    simp only [then_ret]
    exact ret1 hk rfl rfl ⟨by rw [hz], hB⟩
  · rcases or4 (l.getD 0 [] = ofD 2 []) (old = l.getD 0 []) (rt = l.getD 0 []) with h1 | ⟨h1, h2⟩ | ⟨h1, h2, h3⟩ | ⟨h1, h2, h3⟩
    · obtain ⟨n, rfl⟩ : ∃ k : Nat, n₀ = k := ⟨n₀.toNat, by omega⟩
      obtain ⟨m, rfl⟩ : ∃ k : Nat, m₀ = k := ⟨m₀.toNat, by omega⟩
      have hz : extR old rt n m l = 15 := by rw [ext_none (by omega) (by omega)]; rw [if_neg]; intro h; apply h1; rw [getD_zD (by omega)]; exact h.2.1
      refine start 76 Tryd.func58 rfl rfl rfl fun a hk => ?_
      have hB : Ext w0 w0 := Below.refl _ _
      refine wp_seq_k fun K1 hK1 => ?_
      refine wp_region_lit ?_
      refine la hk rfl (a_box hk rfl rfl fun a w b5 hk G => ?_)
      have hg_b5 : w0.heap.size ≤ b5 := Nat.le_trans hB.size G.ge
      have hB := ext_trans hB G.ext
      have h_b5 := G.at_
      clear G
      refine la hk rfl (a_box hk rfl rfl fun a w b6 hk G => ?_)
      have n_b5_b6 : b5 ≠ b6 := G.ne h_b5
      have hg_b6 : w0.heap.size ≤ b6 := Nat.le_trans hB.size G.ge
      have h_b5 := ext_at G.ext h_b5
      have hB := ext_trans hB G.ext
      have h_b6 := G.at_
      clear G
      refine ls hk rfl rfl rfl (e_assign hk rfl _) fun a hk => ?_
      refine lnil (hK1 _ _ ?_)
      refine wp_seq_k fun K2 hK2 => ?_
      refine wp_seq_k fun K3 hK3 => ?_
      refine wp_region_lit ?_
      refine ls hk rfl rfl rfl (e_move hk rfl _) fun a hk => ?_
      refine ls hk rfl rfl rfl (e_lss (b := false) hk rfl rfl (decide_eq_false (by omega)) _) fun a hk => ?_
      refine ls hk rfl rfl rfl (e_move hk rfl _) fun a hk => ?_
      refine ls hk rfl rfl rfl (e_move hk rfl _) fun a hk => ?_
      refine ls hk rfl rfl rfl (e_move hk rfl _) fun a hk => ?_
      refine ls hk rfl rfl rfl (e_gtr (b := false) hk rfl rfl (decide_eq_false (by omega)) _) fun a hk => ?_
      refine ls hk rfl rfl rfl (e_pickF hk rfl rfl _) fun a hk => ?_
      refine ls hk rfl rfl rfl (e_move hk rfl _) fun a hk => ?_
      refine ls hk rfl rfl rfl (e_move hk rfl _) fun a hk => ?_
      refine ls hk rfl rfl rfl (e_gtr (b := false) hk rfl rfl (decide_eq_false (by omega)) _) fun a hk => ?_
      refine ls hk rfl rfl rfl (e_pickF hk rfl rfl _) fun a hk => ?_
      refine lnil (hK3 _ _ ?_)
      refine cdF hk rfl ?_
      refine wp_skip (hK2 _ _ ?_)
      refine wp_seq_k fun K4 hK4 => ?_
      refine wp_region_lit ?_
      refine ls hk rfl rfl rfl (e_buildA (cells := #[I (0 : Nat), I (0 : Nat)]) hk rfl zr66 Tryd.underlying66 sz3 rfl _) fun a hk => ?_
      refine la hk rfl (a_lit (cells := #[I (0 : Nat), I (0 : Nat)]) (sz := 2) (by_ := 16) hk rfl rfl Tryd.underlying67 el66 (by decide) (by decide) (lit66 _ 0 0) rfl fun a w bl hk GL => ?_)
      have h_b5 := ext_at GL.ext h_b5
      have h_b6 := ext_at GL.ext h_b6
      have hRp : Rdp w (some ⟨bl, 0, none⟩) 1 1 [(0, 0)] := Rd.of_block GL.at_ rfl (Nat.le_refl _) (fun i hi => by rw [Nat.zero_add]; simp [pairs])
      have hB := ext_trans hB GL.ext
      clear GL
      refine ls hk rfl rfl rfl (e_assign hk rfl _) fun a hk => ?_
      refine lnil (hK4 _ _ ?_)
      refine wp_seq_k fun K5 hK5 => ?_
      refine wp_seq_k fun K6 hK6 => ?_
      refine wp_region_lit ?_
      refine ls hk rfl rfl rfl (e_move hk rfl _) fun a hk => ?_
      refine ls hk rfl rfl rfl (e_gtr (b := false) hk rfl rfl (decide_eq_false (by omega)) _) fun a hk => ?_
      refine lnil (hK6 _ _ ?_)
      refine cdF hk rfl ?_
      refine wp_skip (hK5 _ _ ?_)
      refine wp_seq_k fun K7 hK7 => ?_
      refine wp_seq_k fun K8 hK8 => ?_
      refine wp_region_lit ?_
      refine ls hk rfl rfl rfl (e_move hk rfl _) fun a hk => ?_
      refine ls hk rfl rfl rfl (e_lenS hk rfl Tryd.underlying67 _) fun a hk => ?_
      refine ls hk rfl rfl rfl (e_move hk rfl _) fun a hk => ?_
      refine ls hk rfl rfl rfl (e_lenS hk rfl Tryd.underlying69 _) fun a hk => ?_
      refine ls hk rfl rfl rfl (e_neq (b := false) hk rfl rfl (by simp; omega) _) fun a hk => ?_
      refine lnil (hK8 _ _ ?_)
      refine cdF hk rfl ?_
      refine wp_skip (hK7 _ _ ?_)
      refine wp_seq_k fun K9 hK9 => ?_
      refine wp_seq_k fun K10 hK10 => ?_
      refine wp_region_lit ?_
      refine ls hk rfl rfl rfl (e_move hk rfl _) fun a hk => ?_
      refine ls hk rfl rfl rfl (e_eql (b := true) hk rfl rfl (decide_eq_true (by omega)) _) fun a hk => ?_
      refine lnil (hK10 _ _ ?_)
      refine cdT hk rfl ?_
      refine wp_seq_k fun K11 hK11 => ?_
      refine wp_seq_k fun K12 hK12 => ?_
      have hll := hl1
      obtain ⟨bd, od, rfl, hrg, hd16⟩ := hRl.get 0 (by omega)
      have hg0 : l.getD 0 zD = l.getD 0 [] := (getD_zD (by omega)).symm
      refine wp_region_ok (fun w => w.rangeAt bd (od + 0 * 16) ((l.getD 0 []).map B)) [0, 0, 3, 4, 0, 0, 1, 0, 0, 1, 0, 0, 0, 1, 0, 0, 1, 0, 0] mixed ?_
      have hB := hB.drew
      have h_b5 := ext_at (ext_drew w) h_b5
      have h_b6 := ext_at (ext_drew w) h_b6
      have hS : (fun w => w.rangeAt bd (od + 0 * 16) ((l.getD 0 []).map B)) w.drew := range_ext hB hrg
      refine d0 0 hk rfl (by kernel_rfl) rfl rfl rfl rfl (fun _ => e_move hk rfl _) fun a hk => ?_
      refine d0 1 hk rfl (by kernel_rfl) rfl rfl rfl rfl (fun _ => e_idxSn 0 hk rfl rfl Tryd.underlying69 sz44 rfl (by omega) _) fun a hk => ?_
      refine d3 2 hk rfl (by kernel_rfl) rfl rfl rfl rfl hS (fun w hS => r_ldR44 hk rfl hS hd16) fun a hk => ?_
      refine da4 3 hk rfl (by kernel_rfl) rfl rfl hS (a_call hk rfl rfl (c_fn hk rfl ok47) (c47 0 [] none 0 _ rfl ⟨by decide, by simp⟩ rd_none (hG.ext hB)) ?_)
      rintro e w ⟨rfl, hE⟩
      refine ⟨_, rfl, fun a hk => ⟨range_ext hE hS, ?_⟩⟩
      have hS := range_ext hE hS
      have h_b5 := ext_at hE h_b5
      have h_b6 := ext_at hE h_b6
      have hB := ext_trans hB hE
      rw [rootS_nil] at hk
      clear hE
      refine d0 4 hk rfl (by kernel_rfl) rfl rfl rfl rfl (fun _ => e_neA (l := l.getD 0 []) (r := ofD 2 []) (b := true) hk rfl rfl Tryd.underlying44 Tryd.underlying5 sz5 hd16 (by simp) eg44 (by rw [decide_eq_false h1]; rfl) _) fun a hk => ?_
      refine d0 5 hk rfl (by kernel_rfl) rfl rfl rfl rfl (fun _ => e_move hk rfl _) fun a hk => ?_
      refine dno 6 hk rfl (by kernel_rfl) rfl rfl rfl fun a hk => ?_
      refine dno 7 hk rfl (by kernel_rfl) rfl rfl rfl fun a hk => ?_
      refine dno 8 hk rfl (by kernel_rfl) rfl rfl rfl fun a hk => ?_
      refine dno 9 hk rfl (by kernel_rfl) rfl rfl rfl fun a hk => ?_
      refine dno 10 hk rfl (by kernel_rfl) rfl rfl rfl fun a hk => ?_
      refine d0 11 hk rfl (by kernel_rfl) rfl rfl rfl rfl (fun _ => e_pickT hk rfl rfl _) fun a hk => ?_
      refine d0 12 hk rfl (by kernel_rfl) rfl rfl rfl rfl (fun _ => e_move hk rfl _) fun a hk => ?_
      refine dno 13 hk rfl (by kernel_rfl) rfl rfl rfl fun a hk => ?_
      refine dno 14 hk rfl (by kernel_rfl) rfl rfl rfl fun a hk => ?_
      refine dno 15 hk rfl (by kernel_rfl) rfl rfl rfl fun a hk => ?_
      refine dno 16 hk rfl (by kernel_rfl) rfl rfl rfl fun a hk => ?_
      refine dno 17 hk rfl (by kernel_rfl) rfl rfl rfl fun a hk => ?_
      refine d0 18 hk rfl (by kernel_rfl) rfl rfl rfl rfl (fun _ => e_pickT hk rfl rfl _) fun a hk => ?_
      refine okFin (by kernel_rfl) (hK12 _ _ ?_)
      refine cdT hk rfl ?_
      refine wp_seq_k fun K13 hK13 => ?_
      refine wp_region_lit ?_
      refine ls hk rfl rfl rfl (e_assign hk rfl _) fun a hk => ?_
      refine lnil (hK13 _ _ ?_)
      refine wp_ret ?_
      simp only [then_ret]
      exact ret1 hk rfl rfl ⟨by rw [hz], hB⟩
    · obtain ⟨n, rfl⟩ : ∃ k : Nat, n₀ = k := ⟨n₀.toNat, by omega⟩
      obtain ⟨m, rfl⟩ : ∃ k : Nat, m₀ = k := ⟨m₀.toNat, by omega⟩
      have hz : extR old rt n m l = 15 := by rw [ext_none (by omega) (by omega)]; rw [if_neg]; intro h; apply h2; rw [getD_zD (by omega)]; exact h.2.2.1
      refine start 76 Tryd.func58 rfl rfl rfl fun a hk => ?_
      have hB : Ext w0 w0 := Below.refl _ _
      refine wp_seq_k fun K1 hK1 => ?_
      refine wp_region_lit ?_
      refine la hk rfl (a_box hk rfl rfl fun a w b5 hk G => ?_)
      have hg_b5 : w0.heap.size ≤ b5 := Nat.le_trans hB.size G.ge
      have hB := ext_trans hB G.ext
      have h_b5 := G.at_
      clear G
      refine la hk rfl (a_box hk rfl rfl fun a w b6 hk G => ?_)
      have n_b5_b6 : b5 ≠ b6 := G.ne h_b5
      have hg_b6 : w0.heap.size ≤ b6 := Nat.le_trans hB.size G.ge
      have h_b5 := ext_at G.ext h_b5
      have hB := ext_trans hB G.ext
      have h_b6 := G.at_
      clear G
      refine ls hk rfl rfl rfl (e_assign hk rfl _) fun a hk => ?_
      refine lnil (hK1 _ _ ?_)
      refine wp_seq_k fun K2 hK2 => ?_
      refine wp_seq_k fun K3 hK3 => ?_
      refine wp_region_lit ?_
      refine ls hk rfl rfl rfl (e_move hk rfl _) fun a hk => ?_
      refine ls hk rfl rfl rfl (e_lss (b := false) hk rfl rfl (decide_eq_false (by omega)) _) fun a hk => ?_
      refine ls hk rfl rfl rfl (e_move hk rfl _) fun a hk => ?_
      refine ls hk rfl rfl rfl (e_move hk rfl _) fun a hk => ?_
      refine ls hk rfl rfl rfl (e_move hk rfl _) fun a hk => ?_
      refine ls hk rfl rfl rfl (e_gtr (b := false) hk rfl rfl (decide_eq_false (by omega)) _) fun a hk => ?_
      refine ls hk rfl rfl rfl (e_pickF hk rfl rfl _) fun a hk => ?_
      refine ls hk rfl rfl rfl (e_move hk rfl _) fun a hk => ?_
      refine ls hk rfl rfl rfl (e_move hk rfl _) fun a hk => ?_
      refine ls hk rfl rfl rfl (e_gtr (b := false) hk rfl rfl (decide_eq_false (by omega)) _) fun a hk => ?_
      refine ls hk rfl rfl rfl (e_pickF hk rfl rfl _) fun a hk => ?_
      refine lnil (hK3 _ _ ?_)
      refine cdF hk rfl ?_
      refine wp_skip (hK2 _ _ ?_)
      refine wp_seq_k fun K4 hK4 => ?_
      refine wp_region_lit ?_
      refine ls hk rfl rfl rfl (e_buildA (cells := #[I (0 : Nat), I (0 : Nat)]) hk rfl zr66 Tryd.underlying66 sz3 rfl _) fun a hk => ?_
      refine la hk rfl (a_lit (cells := #[I (0 : Nat), I (0 : Nat)]) (sz := 2) (by_ := 16) hk rfl rfl Tryd.underlying67 el66 (by decide) (by decide) (lit66 _ 0 0) rfl fun a w bl hk GL => ?_)
      have h_b5 := ext_at GL.ext h_b5
      have h_b6 := ext_at GL.ext h_b6
      have hRp : Rdp w (some ⟨bl, 0, none⟩) 1 1 [(0, 0)] := Rd.of_block GL.at_ rfl (Nat.le_refl _) (fun i hi => by rw [Nat.zero_add]; simp [pairs])
      have hB := ext_trans hB GL.ext
      clear GL
      refine ls hk rfl rfl rfl (e_assign hk rfl _) fun a hk => ?_
      refine lnil (hK4 _ _ ?_)
      refine wp_seq_k fun K5 hK5 => ?_
      refine wp_seq_k fun K6 hK6 => ?_
      refine wp_region_lit ?_
      refine ls hk rfl rfl rfl (e_move hk rfl _) fun a hk => ?_
      refine ls hk rfl rfl rfl (e_gtr (b := false) hk rfl rfl (decide_eq_false (by omega)) _) fun a hk => ?_
      refine lnil (hK6 _ _ ?_)
      refine cdF hk rfl ?_
      refine wp_skip (hK5 _ _ ?_)
      refine wp_seq_k fun K7 hK7 => ?_
      refine wp_seq_k fun K8 hK8 => ?_
      refine wp_region_lit ?_
      refine ls hk rfl rfl rfl (e_move hk rfl _) fun a hk => ?_
      refine ls hk rfl rfl rfl (e_lenS hk rfl Tryd.underlying67 _) fun a hk => ?_
      refine ls hk rfl rfl rfl (e_move hk rfl _) fun a hk => ?_
      refine ls hk rfl rfl rfl (e_lenS hk rfl Tryd.underlying69 _) fun a hk => ?_
      refine ls hk rfl rfl rfl (e_neq (b := false) hk rfl rfl (by simp; omega) _) fun a hk => ?_
      refine lnil (hK8 _ _ ?_)
      refine cdF hk rfl ?_
      refine wp_skip (hK7 _ _ ?_)
      refine wp_seq_k fun K9 hK9 => ?_
      refine wp_seq_k fun K10 hK10 => ?_
      refine wp_region_lit ?_
      refine ls hk rfl rfl rfl (e_move hk rfl _) fun a hk => ?_
      refine ls hk rfl rfl rfl (e_eql (b := true) hk rfl rfl (decide_eq_true (by omega)) _) fun a hk => ?_
      refine lnil (hK10 _ _ ?_)
      refine cdT hk rfl ?_
      refine wp_seq_k fun K11 hK11 => ?_
      refine wp_seq_k fun K12 hK12 => ?_
      have hll := hl1
      obtain ⟨bd, od, rfl, hrg, hd16⟩ := hRl.get 0 (by omega)
      have hg0 : l.getD 0 zD = l.getD 0 [] := (getD_zD (by omega)).symm
      refine wp_region_ok (fun w => w.rangeAt bd (od + 0 * 16) ((l.getD 0 []).map B)) [0, 0, 3, 4, 0, 0, 1, 0, 0, 1, 0, 0, 0, 1, 0, 0, 1, 0, 0] mixed ?_
      have hB := hB.drew
      have h_b5 := ext_at (ext_drew w) h_b5
      have h_b6 := ext_at (ext_drew w) h_b6
      have hS : (fun w => w.rangeAt bd (od + 0 * 16) ((l.getD 0 []).map B)) w.drew := range_ext hB hrg
      refine d0 0 hk rfl (by kernel_rfl) rfl rfl rfl rfl (fun _ => e_move hk rfl _) fun a hk => ?_
      refine d0 1 hk rfl (by kernel_rfl) rfl rfl rfl rfl (fun _ => e_idxSn 0 hk rfl rfl Tryd.underlying69 sz44 rfl (by omega) _) fun a hk => ?_
      refine d3 2 hk rfl (by kernel_rfl) rfl rfl rfl rfl hS (fun w hS => r_ldR44 hk rfl hS hd16) fun a hk => ?_
      refine da4 3 hk rfl (by kernel_rfl) rfl rfl hS (a_call hk rfl rfl (c_fn hk rfl ok47) (c47 0 [] none 0 _ rfl ⟨by decide, by simp⟩ rd_none (hG.ext hB)) ?_)
      rintro e w ⟨rfl, hE⟩
      refine ⟨_, rfl, fun a hk => ⟨range_ext hE hS, ?_⟩⟩
      have hS := range_ext hE hS
      have h_b5 := ext_at hE h_b5
      have h_b6 := ext_at hE h_b6
      have hB := ext_trans hB hE
      rw [rootS_nil] at hk
      clear hE
      refine d0 4 hk rfl (by kernel_rfl) rfl rfl rfl rfl (fun _ => e_neA (l := l.getD 0 []) (r := ofD 2 []) (b := false) hk rfl rfl Tryd.underlying44 Tryd.underlying5 sz5 hd16 (by simp) eg44 (by rw [decide_eq_true h1]; rfl) _) fun a hk => ?_
      refine d0 5 hk rfl (by kernel_rfl) rfl rfl rfl rfl (fun _ => e_move hk rfl _) fun a hk => ?_
      refine d1 6 hk rfl (by kernel_rfl) rfl rfl rfl rfl (r_ld44 hk rfl h_b5 hold) fun a hk => ?_
      refine d0 7 hk rfl (by kernel_rfl) rfl rfl rfl rfl (fun _ => e_move hk rfl _) fun a hk => ?_
      refine d0 8 hk rfl (by kernel_rfl) rfl rfl rfl rfl (fun _ => e_idxSn 0 hk rfl rfl Tryd.underlying69 sz44 rfl (by omega) _) fun a hk => ?_
      refine d1 9 hk rfl (by kernel_rfl) rfl rfl rfl rfl (r_ldR44 hk rfl hS hd16) fun a hk => ?_
      refine d0 10 hk rfl (by kernel_rfl) rfl rfl rfl rfl (fun _ => e_neA (l := old) (r := l.getD 0 []) (b := true) hk rfl rfl Tryd.underlying44 Tryd.underlying5 sz5 hold hd16 eg44 (by rw [decide_eq_false h2]; rfl) _) fun a hk => ?_
      refine d0 11 hk rfl (by kernel_rfl) rfl rfl rfl rfl (fun _ => e_pickF hk rfl rfl _) fun a hk => ?_
      refine d0 12 hk rfl (by kernel_rfl) rfl rfl rfl rfl (fun _ => e_move hk rfl _) fun a hk => ?_
      refine dno 13 hk rfl (by kernel_rfl) rfl rfl rfl fun a hk => ?_
      refine dno 14 hk rfl (by kernel_rfl) rfl rfl rfl fun a hk => ?_
      refine dno 15 hk rfl (by kernel_rfl) rfl rfl rfl fun a hk => ?_
      refine dno 16 hk rfl (by kernel_rfl) rfl rfl rfl fun a hk => ?_
      refine dno 17 hk rfl (by kernel_rfl) rfl rfl rfl fun a hk => ?_
      refine d0 18 hk rfl (by kernel_rfl) rfl rfl rfl rfl (fun _ => e_pickT hk rfl rfl _) fun a hk => ?_
      refine okFin (by kernel_rfl) (hK12 _ _ ?_)
      refine cdT hk rfl ?_
      refine wp_seq_k fun K13 hK13 => ?_
      refine wp_region_lit ?_
      refine ls hk rfl rfl rfl (e_assign hk rfl _) fun a hk => ?_
      refine lnil (hK13 _ _ ?_)
      refine wp_ret ?_
      simp only [then_ret]
      exact ret1 hk rfl rfl ⟨by rw [hz], hB⟩
    · obtain ⟨n, rfl⟩ : ∃ k : Nat, n₀ = k := ⟨n₀.toNat, by omega⟩
      obtain ⟨m, rfl⟩ : ∃ k : Nat, m₀ = k := ⟨m₀.toNat, by omega⟩
      have hz : extR old rt n m l = 15 := by rw [ext_none (by omega) (by omega)]; rw [if_neg]; intro h; apply h3; rw [getD_zD (by omega)]; exact h.2.2.2
      refine start 76 Tryd.func58 rfl rfl rfl fun a hk => ?_
      have hB : Ext w0 w0 := Below.refl _ _
      refine wp_seq_k fun K1 hK1 => ?_
      refine wp_region_lit ?_
      refine la hk rfl (a_box hk rfl rfl fun a w b5 hk G => ?_)
      have hg_b5 : w0.heap.size ≤ b5 := Nat.le_trans hB.size G.ge
      have hB := ext_trans hB G.ext
      have h_b5 := G.at_
      clear G
      refine la hk rfl (a_box hk rfl rfl fun a w b6 hk G => ?_)
      have n_b5_b6 : b5 ≠ b6 := G.ne h_b5
      have hg_b6 : w0.heap.size ≤ b6 := Nat.le_trans hB.size G.ge
      have h_b5 := ext_at G.ext h_b5
      have hB := ext_trans hB G.ext
      have h_b6 := G.at_
      clear G
      refine ls hk rfl rfl rfl (e_assign hk rfl _) fun a hk => ?_
      refine lnil (hK1 _ _ ?_)
      refine wp_seq_k fun K2 hK2 => ?_
      refine wp_seq_k fun K3 hK3 => ?_
      refine wp_region_lit ?_
      refine ls hk rfl rfl rfl (e_move hk rfl _) fun a hk => ?_
      refine ls hk rfl rfl rfl (e_lss (b := false) hk rfl rfl (decide_eq_false (by omega)) _) fun a hk => ?_
      refine ls hk rfl rfl rfl (e_move hk rfl _) fun a hk => ?_
      refine ls hk rfl rfl rfl (e_move hk rfl _) fun a hk => ?_
      refine ls hk rfl rfl rfl (e_move hk rfl _) fun a hk => ?_
      refine ls hk rfl rfl rfl (e_gtr (b := false) hk rfl rfl (decide_eq_false (by omega)) _) fun a hk => ?_
      refine ls hk rfl rfl rfl (e_pickF hk rfl rfl _) fun a hk => ?_
      refine ls hk rfl rfl rfl (e_move hk rfl _) fun a hk => ?_
      refine ls hk rfl rfl rfl (e_move hk rfl _) fun a hk => ?_
      refine ls hk rfl rfl rfl (e_gtr (b := false) hk rfl rfl (decide_eq_false (by omega)) _) fun a hk => ?_
      refine ls hk rfl rfl rfl (e_pickF hk rfl rfl _) fun a hk => ?_
      refine lnil (hK3 _ _ ?_)
      refine cdF hk rfl ?_
      refine wp_skip (hK2 _ _ ?_)
      refine wp_seq_k fun K4 hK4 => ?_
      refine wp_region_lit ?_
      refine ls hk rfl rfl rfl (e_buildA (cells := #[I (0 : Nat), I (0 : Nat)]) hk rfl zr66 Tryd.underlying66 sz3 rfl _) fun a hk => ?_
      refine la hk rfl (a_lit (cells := #[I (0 : Nat), I (0 : Nat)]) (sz := 2) (by_ := 16) hk rfl rfl Tryd.underlying67 el66 (by decide) (by decide) (lit66 _ 0 0) rfl fun a w bl hk GL => ?_)
      have h_b5 := ext_at GL.ext h_b5
      have h_b6 := ext_at GL.ext h_b6
      have hRp : Rdp w (some ⟨bl, 0, none⟩) 1 1 [(0, 0)] := Rd.of_block GL.at_ rfl (Nat.le_refl _) (fun i hi => by rw [Nat.zero_add]; simp [pairs])
      have hB := ext_trans hB GL.ext
      clear GL
      refine ls hk rfl rfl rfl (e_assign hk rfl _) fun a hk => ?_
      refine lnil (hK4 _ _ ?_)
      refine wp_seq_k fun K5 hK5 => ?_
      refine wp_seq_k fun K6 hK6 => ?_
      refine wp_region_lit ?_
      refine ls hk rfl rfl rfl (e_move hk rfl _) fun a hk => ?_
      refine ls hk rfl rfl rfl (e_gtr (b := false) hk rfl rfl (decide_eq_false (by omega)) _) fun a hk => ?_
      refine lnil (hK6 _ _ ?_)
      refine cdF hk rfl ?_
      refine wp_skip (hK5 _ _ ?_)
      refine wp_seq_k fun K7 hK7 => ?_
      refine wp_seq_k fun K8 hK8 => ?_
      refine wp_region_lit ?_
      refine ls hk rfl rfl rfl (e_move hk rfl _) fun a hk => ?_
      refine ls hk rfl rfl rfl (e_lenS hk rfl Tryd.underlying67 _) fun a hk => ?_
      refine ls hk rfl rfl rfl (e_move hk rfl _) fun a hk => ?_
      refine ls hk rfl rfl rfl (e_lenS hk rfl Tryd.underlying69 _) fun a hk => ?_
      refine ls hk rfl rfl rfl (e_neq (b := false) hk rfl rfl (by simp; omega) _) fun a hk => ?_
      refine lnil (hK8 _ _ ?_)
      refine cdF hk rfl ?_
      refine wp_skip (hK7 _ _ ?_)
      refine wp_seq_k fun K9 hK9 => ?_
      refine wp_seq_k fun K10 hK10 => ?_
      refine wp_region_lit ?_
      refine ls hk rfl rfl rfl (e_move hk rfl _) fun a hk => ?_
      refine ls hk rfl rfl rfl (e_eql (b := true) hk rfl rfl (decide_eq_true (by omega)) _) fun a hk => ?_
      refine lnil (hK10 _ _ ?_)
      refine cdT hk rfl ?_
      refine wp_seq_k fun K11 hK11 => ?_
      refine wp_seq_k fun K12 hK12 => ?_
      have hll := hl1
      obtain ⟨bd, od, rfl, hrg, hd16⟩ := hRl.get 0 (by omega)
      have hg0 : l.getD 0 zD = l.getD 0 [] := (getD_zD (by omega)).symm
      refine wp_region_ok (fun w => w.rangeAt bd (od + 0 * 16) ((l.getD 0 []).map B)) [0, 0, 3, 4, 0, 0, 1, 0, 0, 1, 0, 0, 0, 1, 0, 0, 1, 0, 0] mixed ?_
      have hB := hB.drew
      have h_b5 := ext_at (ext_drew w) h_b5
      have h_b6 := ext_at (ext_drew w) h_b6
      have hS : (fun w => w.rangeAt bd (od + 0 * 16) ((l.getD 0 []).map B)) w.drew := range_ext hB hrg
      refine d0 0 hk rfl (by kernel_rfl) rfl rfl rfl rfl (fun _ => e_move hk rfl _) fun a hk => ?_
      refine d0 1 hk rfl (by kernel_rfl) rfl rfl rfl rfl (fun _ => e_idxSn 0 hk rfl rfl Tryd.underlying69 sz44 rfl (by omega) _) fun a hk => ?_
      refine d3 2 hk rfl (by kernel_rfl) rfl rfl rfl rfl hS (fun w hS => r_ldR44 hk rfl hS hd16) fun a hk => ?_
      refine da4 3 hk rfl (by kernel_rfl) rfl rfl hS (a_call hk rfl rfl (c_fn hk rfl ok47) (c47 0 [] none 0 _ rfl ⟨by decide, by simp⟩ rd_none (hG.ext hB)) ?_)
      rintro e w ⟨rfl, hE⟩
      refine ⟨_, rfl, fun a hk => ⟨range_ext hE hS, ?_⟩⟩
      have hS := range_ext hE hS
      have h_b5 := ext_at hE h_b5
      have h_b6 := ext_at hE h_b6
      have hB := ext_trans hB hE
      rw [rootS_nil] at hk
      clear hE
      refine d0 4 hk rfl (by kernel_rfl) rfl rfl rfl rfl (fun _ => e_neA (l := l.getD 0 []) (r := ofD 2 []) (b := false) hk rfl rfl Tryd.underlying44 Tryd.underlying5 sz5 hd16 (by simp) eg44 (by rw [decide_eq_true h1]; rfl) _) fun a hk => ?_
      refine d0 5 hk rfl (by kernel_rfl) rfl rfl rfl rfl (fun _ => e_move hk rfl _) fun a hk => ?_
      refine d1 6 hk rfl (by kernel_rfl) rfl rfl rfl rfl (r_ld44 hk rfl h_b5 hold) fun a hk => ?_
      refine d0 7 hk rfl (by kernel_rfl) rfl rfl rfl rfl (fun _ => e_move hk rfl _) fun a hk => ?_
      refine d0 8 hk rfl (by kernel_rfl) rfl rfl rfl rfl (fun _ => e_idxSn 0 hk rfl rfl Tryd.underlying69 sz44 rfl (by omega) _) fun a hk => ?_
      refine d1 9 hk rfl (by kernel_rfl) rfl rfl rfl rfl (r_ldR44 hk rfl hS hd16) fun a hk => ?_
      refine d0 10 hk rfl (by kernel_rfl) rfl rfl rfl rfl (fun _ => e_neA (l := old) (r := l.getD 0 []) (b := false) hk rfl rfl Tryd.underlying44 Tryd.underlying5 sz5 hold hd16 eg44 (by rw [decide_eq_true h2]; rfl) _) fun a hk => ?_
      refine d0 11 hk rfl (by kernel_rfl) rfl rfl rfl rfl (fun _ => e_pickF hk rfl rfl _) fun a hk => ?_
      refine d0 12 hk rfl (by kernel_rfl) rfl rfl rfl rfl (fun _ => e_move hk rfl _) fun a hk => ?_
      refine d1 13 hk rfl (by kernel_rfl) rfl rfl rfl rfl (r_ld44 hk rfl h_b6 hrt) fun a hk => ?_
      refine d0 14 hk rfl (by kernel_rfl) rfl rfl rfl rfl (fun _ => e_move hk rfl _) fun a hk => ?_
      refine d0 15 hk rfl (by kernel_rfl) rfl rfl rfl rfl (fun _ => e_idxSn 0 hk rfl rfl Tryd.underlying69 sz44 rfl (by omega) _) fun a hk => ?_
      refine d1 16 hk rfl (by kernel_rfl) rfl rfl rfl rfl (r_ldR44 hk rfl hS hd16) fun a hk => ?_
      refine d0 17 hk rfl (by kernel_rfl) rfl rfl rfl rfl (fun _ => e_neA (l := rt) (r := l.getD 0 []) (b := true) hk rfl rfl Tryd.underlying44 Tryd.underlying5 sz5 hrt hd16 eg44 (by rw [decide_eq_false h3]; rfl) _) fun a hk => ?_
      refine d0 18 hk rfl (by kernel_rfl) rfl rfl rfl rfl (fun _ => e_pickF hk rfl rfl _) fun a hk => ?_
      refine okFin (by kernel_rfl) (hK12 _ _ ?_)
      refine cdT hk rfl ?_
      refine wp_seq_k fun K13 hK13 => ?_
      refine wp_region_lit ?_
      refine ls hk rfl rfl rfl (e_assign hk rfl _) fun a hk => ?_
      refine lnil (hK13 _ _ ?_)
      refine wp_ret ?_
      simp only [then_ret]
      exact ret1 hk rfl rfl ⟨by rw [hz], hB⟩
    · obtain ⟨n, rfl⟩ : ∃ k : Nat, n₀ = k := ⟨n₀.toNat, by omega⟩
      obtain ⟨m, rfl⟩ : ∃ k : Nat, m₀ = k := ⟨m₀.toNat, by omega⟩
      have hz : extR old rt n m l = 0 := by rw [ext_none (by omega) (by omega)]; rw [if_pos]; rw [← getD_zD (by omega)]; exact ⟨hl1, h1, h2, h3⟩
      refine start 76 Tryd.func58 rfl rfl rfl fun a hk => ?_
      have hB : Ext w0 w0 := Below.refl _ _
      refine wp_seq_k fun K1 hK1 => ?_
      refine wp_region_lit ?_
      refine la hk rfl (a_box hk rfl rfl fun a w b5 hk G => ?_)
      have hg_b5 : w0.heap.size ≤ b5 := Nat.le_trans hB.size G.ge
      have hB := ext_trans hB G.ext
      have h_b5 := G.at_
      clear G
      refine la hk rfl (a_box hk rfl rfl fun a w b6 hk G => ?_)
      have n_b5_b6 : b5 ≠ b6 := G.ne h_b5
      have hg_b6 : w0.heap.size ≤ b6 := Nat.le_trans hB.size G.ge
      have h_b5 := ext_at G.ext h_b5
      have hB := ext_trans hB G.ext
      have h_b6 := G.at_
      clear G
      refine ls hk rfl rfl rfl (e_assign hk rfl _) fun a hk => ?_
      refine lnil (hK1 _ _ ?_)
      refine wp_seq_k fun K2 hK2 => ?_
      refine wp_seq_k fun K3 hK3 => ?_
      refine wp_region_lit ?_
      refine ls hk rfl rfl rfl (e_move hk rfl _) fun a hk => ?_
      refine ls hk rfl rfl rfl (e_lss (b := false) hk rfl rfl (decide_eq_false (by omega)) _) fun a hk => ?_
      refine ls hk rfl rfl rfl (e_move hk rfl _) fun a hk => ?_
      refine ls hk rfl rfl rfl (e_move hk rfl _) fun a hk => ?_
      refine ls hk rfl rfl rfl (e_move hk rfl _) fun a hk => ?_
      refine ls hk rfl rfl rfl (e_gtr (b := false) hk rfl rfl (decide_eq_false (by omega)) _) fun a hk => ?_
      refine ls hk rfl rfl rfl (e_pickF hk rfl rfl _) fun a hk => ?_
      refine ls hk rfl rfl rfl (e_move hk rfl _) fun a hk => ?_
      refine ls hk rfl rfl rfl (e_move hk rfl _) fun a hk => ?_
      refine ls hk rfl rfl rfl (e_gtr (b := false) hk rfl rfl (decide_eq_false (by omega)) _) fun a hk => ?_
      refine ls hk rfl rfl rfl (e_pickF hk rfl rfl _) fun a hk => ?_
      refine lnil (hK3 _ _ ?_)
      refine cdF hk rfl ?_
      refine wp_skip (hK2 _ _ ?_)
      refine wp_seq_k fun K4 hK4 => ?_
      refine wp_region_lit ?_
      refine ls hk rfl rfl rfl (e_buildA (cells := #[I (0 : Nat), I (0 : Nat)]) hk rfl zr66 Tryd.underlying66 sz3 rfl _) fun a hk => ?_
      refine la hk rfl (a_lit (cells := #[I (0 : Nat), I (0 : Nat)]) (sz := 2) (by_ := 16) hk rfl rfl Tryd.underlying67 el66 (by decide) (by decide) (lit66 _ 0 0) rfl fun a w bl hk GL => ?_)
      have h_b5 := ext_at GL.ext h_b5
      have h_b6 := ext_at GL.ext h_b6
      have hRp : Rdp w (some ⟨bl, 0, none⟩) 1 1 [(0, 0)] := Rd.of_block GL.at_ rfl (Nat.le_refl _) (fun i hi => by rw [Nat.zero_add]; simp [pairs])
      have hB := ext_trans hB GL.ext
      clear GL
      refine ls hk rfl rfl rfl (e_assign hk rfl _) fun a hk => ?_
      refine lnil (hK4 _ _ ?_)
      refine wp_seq_k fun K5 hK5 => ?_
      refine wp_seq_k fun K6 hK6 => ?_
      refine wp_region_lit ?_
      refine ls hk rfl rfl rfl (e_move hk rfl _) fun a hk => ?_
      refine ls hk rfl rfl rfl (e_gtr (b := false) hk rfl rfl (decide_eq_false (by omega)) _) fun a hk => ?_
      refine lnil (hK6 _ _ ?_)
      refine cdF hk rfl ?_
      refine wp_skip (hK5 _ _ ?_)
      refine wp_seq_k fun K7 hK7 => ?_
      refine wp_seq_k fun K8 hK8 => ?_
      refine wp_region_lit ?_
      refine ls hk rfl rfl rfl (e_move hk rfl _) fun a hk => ?_
      refine ls hk rfl rfl rfl (e_lenS hk rfl Tryd.underlying67 _) fun a hk => ?_
      refine ls hk rfl rfl rfl (e_move hk rfl _) fun a hk => ?_
      refine ls hk rfl rfl rfl (e_lenS hk rfl Tryd.underlying69 _) fun a hk => ?_
      refine ls hk rfl rfl rfl (e_neq (b := false) hk rfl rfl (by simp; omega) _) fun a hk => ?_
      refine lnil (hK8 _ _ ?_)
      refine cdF hk rfl ?_
      refine wp_skip (hK7 _ _ ?_)
      refine wp_seq_k fun K9 hK9 => ?_
      refine wp_seq_k fun K10 hK10 => ?_
      refine wp_region_lit ?_
      refine ls hk rfl rfl rfl (e_move hk rfl _) fun a hk => ?_
      refine ls hk rfl rfl rfl (e_eql (b := true) hk rfl rfl (decide_eq_true (by omega)) _) fun a hk => ?_
      refine lnil (hK10 _ _ ?_)
      refine cdT hk rfl ?_
      refine wp_seq_k fun K11 hK11 => ?_
      refine wp_seq_k fun K12 hK12 => ?_
      have hll := hl1
      obtain ⟨bd, od, rfl, hrg, hd16⟩ := hRl.get 0 (by omega)
      have hg0 : l.getD 0 zD = l.getD 0 [] := (getD_zD (by omega)).symm
      refine wp_region_ok (fun w => w.rangeAt bd (od + 0 * 16) ((l.getD 0 []).map B)) [0, 0, 3, 4, 0, 0, 1, 0, 0, 1, 0, 0, 0, 1, 0, 0, 1, 0, 0] mixed ?_
      have hB := hB.drew
      have h_b5 := ext_at (ext_drew w) h_b5
      have h_b6 := ext_at (ext_drew w) h_b6
      have hS : (fun w => w.rangeAt bd (od + 0 * 16) ((l.getD 0 []).map B)) w.drew := range_ext hB hrg
      refine d0 0 hk rfl (by kernel_rfl) rfl rfl rfl rfl (fun _ => e_move hk rfl _) fun a hk => ?_
      refine d0 1 hk rfl (by kernel_rfl) rfl rfl rfl rfl (fun _ => e_idxSn 0 hk rfl rfl Tryd.underlying69 sz44 rfl (by omega) _) fun a hk => ?_
      refine d3 2 hk rfl (by kernel_rfl) rfl rfl rfl rfl hS (fun w hS => r_ldR44 hk rfl hS hd16) fun a hk => ?_
      refine da4 3 hk rfl (by kernel_rfl) rfl rfl hS (a_call hk rfl rfl (c_fn hk rfl ok47) (c47 0 [] none 0 _ rfl ⟨by decide, by simp⟩ rd_none (hG.ext hB)) ?_)
      rintro e w ⟨rfl, hE⟩
      refine ⟨_, rfl, fun a hk => ⟨range_ext hE hS, ?_⟩⟩
      have hS := range_ext hE hS
      have h_b5 := ext_at hE h_b5
      have h_b6 := ext_at hE h_b6
      have hB := ext_trans hB hE
      rw [rootS_nil] at hk
      clear hE
      refine d0 4 hk rfl (by kernel_rfl) rfl rfl rfl rfl (fun _ => e_neA (l := l.getD 0 []) (r := ofD 2 []) (b := false) hk rfl rfl Tryd.underlying44 Tryd.underlying5 sz5 hd16 (by simp) eg44 (by rw [decide_eq_true h1]; rfl) _) fun a hk => ?_
      refine d0 5 hk rfl (by kernel_rfl) rfl rfl rfl rfl (fun _ => e_move hk rfl _) fun a hk => ?_
      refine d1 6 hk rfl (by kernel_rfl) rfl rfl rfl rfl (r_ld44 hk rfl h_b5 hold) fun a hk => ?_
      refine d0 7 hk rfl (by kernel_rfl) rfl rfl rfl rfl (fun _ => e_move hk rfl _) fun a hk => ?_
      refine d0 8 hk rfl (by kernel_rfl) rfl rfl rfl rfl (fun _ => e_idxSn 0 hk rfl rfl Tryd.underlying69 sz44 rfl (by omega) _) fun a hk => ?_
      refine d1 9 hk rfl (by kernel_rfl) rfl rfl rfl rfl (r_ldR44 hk rfl hS hd16) fun a hk => ?_
      refine d0 10 hk rfl (by kernel_rfl) rfl rfl rfl rfl (fun _ => e_neA (l := old) (r := l.getD 0 []) (b := false) hk rfl rfl Tryd.underlying44 Tryd.underlying5 sz5 hold hd16 eg44 (by rw [decide_eq_true h2]; rfl) _) fun a hk => ?_
      refine d0 11 hk rfl (by kernel_rfl) rfl rfl rfl rfl (fun _ => e_pickF hk rfl rfl _) fun a hk => ?_
      refine d0 12 hk rfl (by kernel_rfl) rfl rfl rfl rfl (fun _ => e_move hk rfl _) fun a hk => ?_
      refine d1 13 hk rfl (by kernel_rfl) rfl rfl rfl rfl (r_ld44 hk rfl h_b6 hrt) fun a hk => ?_
      refine d0 14 hk rfl (by kernel_rfl) rfl rfl rfl rfl (fun _ => e_move hk rfl _) fun a hk => ?_
      refine d0 15 hk rfl (by kernel_rfl) rfl rfl rfl rfl (fun _ => e_idxSn 0 hk rfl rfl Tryd.underlying69 sz44 rfl (by omega) _) fun a hk => ?_
      refine d1 16 hk rfl (by kernel_rfl) rfl rfl rfl rfl (r_ldR44 hk rfl hS hd16) fun a hk => ?_
      refine d0 17 hk rfl (by kernel_rfl) rfl rfl rfl rfl (fun _ => e_neA (l := rt) (r := l.getD 0 []) (b := false) hk rfl rfl Tryd.underlying44 Tryd.underlying5 sz5 hrt hd16 eg44 (by rw [decide_eq_true h3]; rfl) _) fun a hk => ?_
      refine d0 18 hk rfl (by kernel_rfl) rfl rfl rfl rfl (fun _ => e_pickF hk rfl rfl _) fun a hk => ?_
      refine okFin (by kernel_rfl) (hK12 _ _ ?_)
      refine cdF hk rfl ?_
      refine wp_skip (hK11 _ _ ?_)
      refine wp_seq_k fun K13 hK13 => ?_
      refine wp_region_lit ?_
      refine ls hk rfl rfl rfl (e_assign hk rfl _) fun a hk => ?_
      refine lnil (hK13 _ _ ?_)
      refine wp_ret ?_
      simp only [then_ret]
      exact ret1 hk rfl rfl ⟨by rw [hz], hB⟩
  · obtain ⟨n, rfl⟩ : ∃ k : Nat, n₀ = k := ⟨n₀.toNat, by omega⟩
    obtain ⟨m, rfl⟩ : ∃ k : Nat, m₀ = k := ⟨m₀.toNat, by omega⟩
    have hres := ext_some (old := old) (rt := rt) (n := n) (m := m) (l := l) (by omega) (by omega) (by omega)
    have hcq := chk_count (farB n) (fun _ => zD) l 0 m (by omega) 0
    have hlr : (stepsS n 0 m).length ≤ _ := stops_len _ 0 m (by omega)
    have hx16 := chk_len (farB n) (fun _ => zD) (fun _ => rfl) l hRl.2 0 m (by omega) 0
    refine start 76 Tryd.func58 rfl rfl rfl fun a hk => ?_
    have hB : Ext w0 w0 := Below.refl _ _
    refine wp_seq_k fun K1 hK1 => ?_
    refine wp_region_lit ?_
    refine la hk rfl (a_box hk rfl rfl fun a w b5 hk G => ?_)
    have hg_b5 : w0.heap.size ≤ b5 := Nat.le_trans hB.size G.ge
    have hB := ext_trans hB G.ext
    have h_b5 := G.at_
    clear G
    refine la hk rfl (a_box hk rfl rfl fun a w b6 hk G => ?_)
    have n_b5_b6 : b5 ≠ b6 := G.ne h_b5
    have hg_b6 : w0.heap.size ≤ b6 := Nat.le_trans hB.size G.ge
    have h_b5 := ext_at G.ext h_b5
    have hB := ext_trans hB G.ext
    have h_b6 := G.at_
    clear G
    refine ls hk rfl rfl rfl (e_assign hk rfl _) fun a hk => ?_
    refine lnil (hK1 _ _ ?_)
    refine wp_seq_k fun K2 hK2 => ?_
    refine wp_seq_k fun K3 hK3 => ?_
    refine wp_region_lit ?_
    refine ls hk rfl rfl rfl (e_move hk rfl _) fun a hk => ?_
    refine ls hk rfl rfl rfl (e_lss (b := false) hk rfl rfl (decide_eq_false (by omega)) _) fun a hk => ?_
    refine ls hk rfl rfl rfl (e_move hk rfl _) fun a hk => ?_
    refine ls hk rfl rfl rfl (e_move hk rfl _) fun a hk => ?_
    refine ls hk rfl rfl rfl (e_move hk rfl _) fun a hk => ?_
    refine ls hk rfl rfl rfl (e_gtr (b := false) hk rfl rfl (decide_eq_false (by omega)) _) fun a hk => ?_
    refine ls hk rfl rfl rfl (e_pickF hk rfl rfl _) fun a hk => ?_
    refine ls hk rfl rfl rfl (e_move hk rfl _) fun a hk => ?_
    refine ls hk rfl rfl rfl (e_move hk rfl _) fun a hk => ?_
    refine ls hk rfl rfl rfl (e_gtr (b := false) hk rfl rfl (decide_eq_false (by omega)) _) fun a hk => ?_
    refine ls hk rfl rfl rfl (e_pickF hk rfl rfl _) fun a hk => ?_
    refine lnil (hK3 _ _ ?_)
    refine cdF hk rfl ?_
    refine wp_skip (hK2 _ _ ?_)
    refine wp_seq_k fun K4 hK4 => ?_
    refine wp_region_lit ?_
    refine ls hk rfl rfl rfl (e_buildA (cells := #[I (0 : Nat), I (0 : Nat)]) hk rfl zr66 Tryd.underlying66 sz3 rfl _) fun a hk => ?_
    refine la hk rfl (a_lit (cells := #[I (0 : Nat), I (0 : Nat)]) (sz := 2) (by_ := 16) hk rfl rfl Tryd.underlying67 el66 (by decide) (by decide) (lit66 _ 0 0) rfl fun a w bl hk GL => ?_)
    have h_b5 := ext_at GL.ext h_b5
    have h_b6 := ext_at GL.ext h_b6
    have hRp : Rdp w (some ⟨bl, 0, none⟩) 1 1 [(0, 0)] := Rd.of_block GL.at_ rfl (Nat.le_refl _) (fun i hi => by rw [Nat.zero_add]; simp [pairs])
    have hB := ext_trans hB GL.ext
    clear GL
    refine ls hk rfl rfl rfl (e_assign hk rfl _) fun a hk => ?_
    refine lnil (hK4 _ _ ?_)
    refine wp_seq_k fun K5 hK5 => ?_
    refine wp_seq_k fun K6 hK6 => ?_
    refine wp_region_lit ?_
    refine ls hk rfl rfl rfl (e_move hk rfl _) fun a hk => ?_
    refine ls hk rfl rfl rfl (e_gtr (b := true) hk rfl rfl (decide_eq_true (by omega)) _) fun a hk => ?_
    refine lnil (hK6 _ _ ?_)
    refine cdT hk rfl ?_
    refine wp_region_lit ?_
    refine ls hk rfl rfl rfl (e_move hk rfl _) fun a hk => ?_
    refine ls hk rfl rfl rfl (e_move hk rfl _) fun a hk => ?_
    refine la hk rfl (a_call hk rfl rfl (c_fn hk rfl ok104) (c104 n _ 0 m _ rfl (by omega) (by omega)) ?_)
    rintro e w ⟨v1, rfl, hown1, hE⟩
    refine ⟨_, rfl, fun a hk => ?_⟩
    have h_b5 := ext_at hE h_b5
    have h_b6 := ext_at hE h_b6
    have hB := ext_trans hB hE
    obtain ⟨ad1, c1, rfl, _, hR1⟩ := Rd.of_own hown1
    clear hE
    refine ls hk rfl rfl rfl (e_assign hk rfl _) fun a hk => ?_
    refine lnil (hK5 _ _ ?_)
    refine wp_seq_k fun K7 hK7 => ?_
    refine wp_seq_k fun K8 hK8 => ?_
    refine wp_region_lit ?_
    refine ls hk rfl rfl rfl (e_move hk rfl _) fun a hk => ?_
    refine ls hk rfl rfl rfl (e_lenS hk rfl Tryd.underlying67 _) fun a hk => ?_
    refine ls hk rfl rfl rfl (e_move hk rfl _) fun a hk => ?_
    refine ls hk rfl rfl rfl (e_lenS hk rfl Tryd.underlying69 _) fun a hk => ?_
    refine ls hk rfl rfl rfl (e_neq hk rfl rfl rfl _) fun a hk => ?_
    refine lnil (hK8 _ _ ?_)
    refine cdB hk rfl (fun hb => ?_) (fun hb => ?_)
    · have hcl : ¬ (stepsS n 0 m).length = l.length := by intro h; rw [h] at hb; simp at hb
      have hz : extR old rt n m l = 15 := by rw [hres, if_neg (fun h => hcl (by have h1 := h.1; rw [hcq, Nat.zero_add] at h1; exact h1))]
      refine wp_seq_k fun K9 hK9 => ?_
      refine wp_region_lit ?_
      refine ls hk rfl rfl rfl (e_assign hk rfl _) fun a hk => ?_
      refine lnil (hK9 _ _ ?_)
      refine wp_ret ?_
      first
        | exact ret1 hk rfl rfl ⟨by rw [hz], hB⟩
        | (simp only [then_ret]; exact ret1 hk rfl rfl ⟨by rw [hz], hB⟩)
    · have hcl : (stepsS n 0 m).length = l.length := by
        have h : ((stepsS n 0 m).length : Int) = (l.length : Int) := by simpa using hb
        omega
      refine wp_skip (hK7 _ _ ?_)
      refine wp_seq_k fun K10 hK10 => ?_
      refine wp_seq_k fun K11 hK11 => ?_
      refine wp_region_lit ?_
      refine ls hk rfl rfl rfl (e_move hk rfl _) fun a hk => ?_
      refine ls hk rfl rfl rfl (e_eql (b := false) hk rfl rfl (decide_eq_false (by omega)) _) fun a hk => ?_
      refine lnil (hK11 _ _ ?_)
      refine cdF hk rfl ?_
      refine wp_skip (hK10 _ _ ?_)
      refine wp_seq_k fun K12 hK12 => ?_
      refine wp_region_lit ?_
      refine la hk rfl (a_call hk rfl rfl (c_fn hk rfl ok47) (c47 0 [] none 0 _ rfl ⟨by decide, by simp⟩ rd_none (hG.ext hB)) ?_)
      rintro e w ⟨rfl, hE⟩
      refine ⟨_, rfl, fun a hk => ?_⟩
      have h_b5 := ext_at hE h_b5
      have h_b6 := ext_at hE h_b6
      have hR1 := hR1.ext hE
      have hB := ext_trans hB hE
      rw [rootS_nil] at hk
      clear hE
      refine la hk rfl (a_alloc hk rfl zr44 fun a w b12 hk G => ?_)
      have n_b5_b12 : b5 ≠ b12 := G.ne h_b5
      have n_b6_b12 : b6 ≠ b12 := G.ne h_b6
      have k_hR1_b12 := rd_keep hR1 G
      have hg_b12 : w0.heap.size ≤ b12 := Nat.le_trans hB.size G.ge
      have h_b5 := ext_at G.ext h_b5
      have h_b6 := ext_at G.ext h_b6
      have hR1 := hR1.ext G.ext
      have hB := ext_trans hB G.ext
      have h_b12 := G.at_
      clear G
      refine la hk rfl (a_st44 (l := ofD 2 []) hk rfl rfl (by simp) h_b12 rfl fun a w hk W => ?_)
      have h_b5 := W.keep n_b5_b12 h_b5
      have h_b6 := W.keep n_b6_b12 h_b6
      have hR1 := k_hR1_b12 _ _ _ hR1 W
      have hB := W.below hB hg_b12
      have h_b12 := W.at_
      clear W
      refine lnil (hK12 _ _ ?_)
      refine wp_seq_k fun K13 hK13 => ?_
      have hJ13 : ∀ (a : Act) (w : World), (∃ (q : List UInt8), Kn a 76 [(2, I n), (3, I m), (4, .slice adl l.length cl), (5, .pointer (some ⟨b5, 0, none⟩)), (6, .pointer (some ⟨b6, 0, none⟩)), (11, .slice ad1 (stepsS n 0 m).length c1), (12, .pointer (some ⟨b12, 0, none⟩))] ∧ (Ext w0 w) ∧ (w.heap[b5]? = some (.cells (old.map B).toArray 44 (0, 0))) ∧ (w.heap[b6]? = some (.cells (rt.map B).toArray 44 (0, 0))) ∧ (Rd w ad1 (stepsS n 0 m).length c1 2 (pairs (stepsS n 0 m))) ∧ (w.heap[b12]? = some (.cells (q.map B).toArray 44 (0, 0))) ∧ (q.length = 16) ∧ (q = (if n = 0 then ofD 2 [] else (oldC (farB n) l n 0 m 0)))) → K13 a w := by
        clear hk hB h_b5 h_b6 hR1 h_b12
        intro a w ⟨q, hk, hB, h_b5, h_b6, hR1, h_b12, hq16, hq⟩
        refine hK13 _ _ ?_
        refine wp_seq_k fun K14 hK14 => ?_
        refine wp_seq_k fun K15 hK15 => ?_
        by_cases ho : old = q
        by_cases hr : rt = (chkS (farB n) (fun _ => zD) l 0 m 0).1
        · have hz : extR old rt n m l = 0 := by rw [hres, ← hq, if_pos ⟨by rw [hcq, Nat.zero_add]; exact hcl, hr.symm, ho.symm⟩]
          refine wp_region_ok (fun w => w.heap[b6]? = some (.cells (rt.map B).toArray 44 (0, 0))) [1, 1, 0, 0, 3, 0, 0, 0, 4, 0, 0] mixed ?_
          have hB := hB.drew
          have h_b5 := ext_at (ext_drew w) h_b5
          have h_b6 := ext_at (ext_drew w) h_b6
          have hR1 := hR1.ext (ext_drew w)
          have h_b12 := ext_at (ext_drew w) h_b12
          have hS : (fun w => w.heap[b6]? = some (.cells (rt.map B).toArray 44 (0, 0))) w.drew := ext_at (ext_drew w) h_b6
          refine d1 0 hk rfl (by kernel_rfl) rfl rfl rfl rfl (r_ld44 hk rfl h_b5 hold) fun a hk => ?_
          refine d1 1 hk rfl (by kernel_rfl) rfl rfl rfl rfl (r_ld44 hk rfl h_b12 hq16) fun a hk => ?_
          refine d0 2 hk rfl (by kernel_rfl) rfl rfl rfl rfl (fun _ => e_neA (l := old) (r := q) (b := false) hk rfl rfl Tryd.underlying44 Tryd.underlying5 sz5 hold hq16 eg44 (by simp [ho]) _) fun a hk => ?_
          refine d0 3 hk rfl (by kernel_rfl) rfl rfl rfl rfl (fun _ => e_move hk rfl _) fun a hk => ?_
          refine d3 4 hk rfl (by kernel_rfl) rfl rfl rfl rfl hS (fun w hS => r_ld44 hk rfl hS hrt) fun a hk => ?_
          refine d0 5 hk rfl (by kernel_rfl) rfl rfl rfl rfl (fun _ => e_move hk rfl _) fun a hk => ?_
          refine d0 6 hk rfl (by kernel_rfl) rfl rfl rfl rfl (fun _ => e_move hk rfl _) fun a hk => ?_
          refine d0 7 hk rfl (by kernel_rfl) rfl rfl rfl rfl (fun _ => e_move hk rfl _) fun a hk => ?_
          refine da4 8 hk rfl (by kernel_rfl) rfl rfl hS (a_call hk rfl rfl (c_fn hk rfl ok111) (c111 (farB n) (stepsS n 0 m) l [] ⟨by decide, by simp⟩ 0 (fun a h => absurd h (by unfold farB; simp; omega)) hcl (by omega) ad1 adl none c1 cl 0 _ 0 m [] [] _ rfl (by omega) (by omega) At.all hR1 (hRl.ext hB) rd_none (hG.ext hB)) ?_)
          rintro e w ⟨rfl, hE⟩
          refine ⟨_, rfl, fun a hk => ⟨ext_at hE hS, ?_⟩⟩
          have hS := ext_at hE hS
          have h_b5 := ext_at hE h_b5
          have h_b6 := ext_at hE h_b6
          have hR1 := hR1.ext hE
          have h_b12 := ext_at hE h_b12
          have hB := ext_trans hB hE
          rw [chk_lf _ (fun _ => zD) l (fun a h => absurd h (by unfold farB; simp; omega)) 0 m (by omega)] at hk
          clear hE
          refine d0 9 hk rfl (by kernel_rfl) rfl rfl rfl rfl (fun _ => e_neA (l := rt) (r := (chkS (farB n) (fun _ => zD) l 0 m 0).1) (b := false) hk rfl rfl Tryd.underlying44 Tryd.underlying5 sz5 hrt hx16 eg44 (by rw [decide_eq_true hr]; rfl) _) fun a hk => ?_
          refine d0 10 hk rfl (by kernel_rfl) rfl rfl rfl rfl (fun _ => e_pickF hk rfl rfl _) fun a hk => ?_
          refine okFin (by kernel_rfl) (hK15 _ _ ?_)
          refine cdF hk rfl ?_
          refine wp_skip (hK14 _ _ ?_)
          refine wp_seq_k fun K16 hK16 => ?_
          refine wp_region_lit ?_
          refine ls hk rfl rfl rfl (e_assign hk rfl _) fun a hk => ?_
          refine lnil (hK16 _ _ ?_)
          refine wp_ret ?_
          first
            | exact ret1 hk rfl rfl ⟨by rw [hz], hB⟩
            | (simp only [then_ret]; exact ret1 hk rfl rfl ⟨by rw [hz], hB⟩)
        · have hz : extR old rt n m l = 15 := by rw [hres, ← hq, if_neg (fun h => hr h.2.1.symm)]
          refine wp_region_ok (fun w => w.heap[b6]? = some (.cells (rt.map B).toArray 44 (0, 0))) [1, 1, 0, 0, 3, 0, 0, 0, 4, 0, 0] mixed ?_
          have hB := hB.drew
          have h_b5 := ext_at (ext_drew w) h_b5
          have h_b6 := ext_at (ext_drew w) h_b6
          have hR1 := hR1.ext (ext_drew w)
          have h_b12 := ext_at (ext_drew w) h_b12
          have hS : (fun w => w.heap[b6]? = some (.cells (rt.map B).toArray 44 (0, 0))) w.drew := ext_at (ext_drew w) h_b6
          refine d1 0 hk rfl (by kernel_rfl) rfl rfl rfl rfl (r_ld44 hk rfl h_b5 hold) fun a hk => ?_
          refine d1 1 hk rfl (by kernel_rfl) rfl rfl rfl rfl (r_ld44 hk rfl h_b12 hq16) fun a hk => ?_
          refine d0 2 hk rfl (by kernel_rfl) rfl rfl rfl rfl (fun _ => e_neA (l := old) (r := q) (b := false) hk rfl rfl Tryd.underlying44 Tryd.underlying5 sz5 hold hq16 eg44 (by simp [ho]) _) fun a hk => ?_
          refine d0 3 hk rfl (by kernel_rfl) rfl rfl rfl rfl (fun _ => e_move hk rfl _) fun a hk => ?_
          refine d3 4 hk rfl (by kernel_rfl) rfl rfl rfl rfl hS (fun w hS => r_ld44 hk rfl hS hrt) fun a hk => ?_
          refine d0 5 hk rfl (by kernel_rfl) rfl rfl rfl rfl (fun _ => e_move hk rfl _) fun a hk => ?_
          refine d0 6 hk rfl (by kernel_rfl) rfl rfl rfl rfl (fun _ => e_move hk rfl _) fun a hk => ?_
          refine d0 7 hk rfl (by kernel_rfl) rfl rfl rfl rfl (fun _ => e_move hk rfl _) fun a hk => ?_
          refine da4 8 hk rfl (by kernel_rfl) rfl rfl hS (a_call hk rfl rfl (c_fn hk rfl ok111) (c111 (farB n) (stepsS n 0 m) l [] ⟨by decide, by simp⟩ 0 (fun a h => absurd h (by unfold farB; simp; omega)) hcl (by omega) ad1 adl none c1 cl 0 _ 0 m [] [] _ rfl (by omega) (by omega) At.all hR1 (hRl.ext hB) rd_none (hG.ext hB)) ?_)
          rintro e w ⟨rfl, hE⟩
          refine ⟨_, rfl, fun a hk => ⟨ext_at hE hS, ?_⟩⟩
          have hS := ext_at hE hS
          have h_b5 := ext_at hE h_b5
          have h_b6 := ext_at hE h_b6
          have hR1 := hR1.ext hE
          have h_b12 := ext_at hE h_b12
          have hB := ext_trans hB hE
          rw [chk_lf _ (fun _ => zD) l (fun a h => absurd h (by unfold farB; simp; omega)) 0 m (by omega)] at hk
          clear hE
          refine d0 9 hk rfl (by kernel_rfl) rfl rfl rfl rfl (fun _ => e_neA (l := rt) (r := (chkS (farB n) (fun _ => zD) l 0 m 0).1) (b := true) hk rfl rfl Tryd.underlying44 Tryd.underlying5 sz5 hrt hx16 eg44 (by rw [decide_eq_false hr]; rfl) _) fun a hk => ?_
          refine d0 10 hk rfl (by kernel_rfl) rfl rfl rfl rfl (fun _ => e_pickF hk rfl rfl _) fun a hk => ?_
          refine okFin (by kernel_rfl) (hK15 _ _ ?_)
          refine cdT hk rfl ?_
          refine wp_seq_k fun K17 hK17 => ?_
          refine wp_region_lit ?_
          refine ls hk rfl rfl rfl (e_assign hk rfl _) fun a hk => ?_
          refine lnil (hK17 _ _ ?_)
          refine wp_ret ?_
          first
            | exact ret1 hk rfl rfl ⟨by rw [hz], hB⟩
            | (simp only [then_ret]; exact ret1 hk rfl rfl ⟨by rw [hz], hB⟩)
        · have hz : extR old rt n m l = 15 := by rw [hres, ← hq, if_neg (fun h => ho h.2.2.symm)]
          refine wp_region_ok (fun w => w.heap[b6]? = some (.cells (rt.map B).toArray 44 (0, 0))) [1, 1, 0, 0, 3, 0, 0, 0, 4, 0, 0] mixed ?_
          have hB := hB.drew
          have h_b5 := ext_at (ext_drew w) h_b5
          have h_b6 := ext_at (ext_drew w) h_b6
          have hR1 := hR1.ext (ext_drew w)
          have h_b12 := ext_at (ext_drew w) h_b12
          have hS : (fun w => w.heap[b6]? = some (.cells (rt.map B).toArray 44 (0, 0))) w.drew := ext_at (ext_drew w) h_b6
          refine d1 0 hk rfl (by kernel_rfl) rfl rfl rfl rfl (r_ld44 hk rfl h_b5 hold) fun a hk => ?_
          refine d1 1 hk rfl (by kernel_rfl) rfl rfl rfl rfl (r_ld44 hk rfl h_b12 hq16) fun a hk => ?_
          refine d0 2 hk rfl (by kernel_rfl) rfl rfl rfl rfl (fun _ => e_neA (l := old) (r := q) (b := true) hk rfl rfl Tryd.underlying44 Tryd.underlying5 sz5 hold hq16 eg44 (by simp [ho]) _) fun a hk => ?_
          refine d0 3 hk rfl (by kernel_rfl) rfl rfl rfl rfl (fun _ => e_move hk rfl _) fun a hk => ?_
          refine dno 4 hk rfl (by kernel_rfl) rfl rfl rfl fun a hk => ?_
          refine dno 5 hk rfl (by kernel_rfl) rfl rfl rfl fun a hk => ?_
          refine dno 6 hk rfl (by kernel_rfl) rfl rfl rfl fun a hk => ?_
          refine dno 7 hk rfl (by kernel_rfl) rfl rfl rfl fun a hk => ?_
          refine dno 8 hk rfl (by kernel_rfl) rfl rfl rfl fun a hk => ?_
          refine dno 9 hk rfl (by kernel_rfl) rfl rfl rfl fun a hk => ?_
          refine d0 10 hk rfl (by kernel_rfl) rfl rfl rfl rfl (fun _ => e_pickT hk rfl rfl _) fun a hk => ?_
          refine okFin (by kernel_rfl) (hK15 _ _ ?_)
          refine cdT hk rfl ?_
          refine wp_seq_k fun K18 hK18 => ?_
          refine wp_region_lit ?_
          refine ls hk rfl rfl rfl (e_assign hk rfl _) fun a hk => ?_
          refine lnil (hK18 _ _ ?_)
          refine wp_ret ?_
          first
            | exact ret1 hk rfl rfl ⟨by rw [hz], hB⟩
            | (simp only [then_ret]; exact ret1 hk rfl rfl ⟨by rw [hz], hB⟩)
      refine wp_seq_k fun K19 hK19 => ?_
      refine wp_region_lit ?_
      refine ls hk rfl rfl rfl (e_move hk rfl _) fun a hk => ?_
      refine ls hk rfl rfl rfl (e_gtr hk rfl rfl rfl _) fun a hk => ?_
      refine lnil (hK19 _ _ ?_)
      refine cdB hk rfl (fun hb => ?_) (fun hb => ?_)
      · have hn0 : 0 < n := by have := of_decide_eq_true hb; omega
        have hq16 := old_len l n hRl.2 (farB n) 0 m (by omega) 0
        have hq : (oldC (farB n) l n 0 m 0) = (if n = 0 then ofD 2 [] else (oldC (farB n) l n 0 m 0)) := by rw [if_neg (by omega)]
        refine wp_region_lit ?_
        refine ls hk rfl rfl rfl (e_move hk rfl _) fun a hk => ?_
        refine ls hk rfl rfl rfl (e_move hk rfl _) fun a hk => ?_
        refine ls hk rfl rfl rfl (e_move hk rfl _) fun a hk => ?_
        refine ls hk rfl rfl rfl (e_move hk rfl _) fun a hk => ?_
        refine la hk rfl (a_call hk rfl rfl (c_fn hk rfl ok115) (c115 n (stepsS n 0 m) l hcl (by omega) ad1 adl c1 cl _ 0 m [] [] _ rfl hn0 (by omega) (by omega) At.all hR1 (hRl.ext hB) (hG.ext hB)) ?_)
        rintro e w ⟨rfl, hE⟩
        refine ⟨_, rfl, fun a hk => ?_⟩
        have h_b5 := ext_at hE h_b5
        have h_b6 := ext_at hE h_b6
        have hR1 := hR1.ext hE
        have h_b12 := ext_at hE h_b12
        have hB := ext_trans hB hE
        clear hE
        refine la hk rfl (a_st44 hk rfl rfl hq16 h_b12 (by simp) fun a w hk W => ?_)
        have h_b5 := W.keep n_b5_b12 h_b5
        have h_b6 := W.keep n_b6_b12 h_b6
        have hR1 := k_hR1_b12 _ _ _ hR1 W
        have hB := W.below hB hg_b12
        have h_b12 := W.at_
        clear W
        refine lnil (hJ13 _ _ ⟨_, hk.sub _ ⟨rfl, rfl, rfl, rfl, rfl, rfl, rfl, trivial⟩, hB, h_b5, h_b6, hR1, h_b12, hq16, hq⟩)
      · have hn0 : n = 0 := by have := of_decide_eq_false hb; omega
        have hq16 := length_ofD 2 []
        have hq : ofD 2 [] = (if n = 0 then ofD 2 [] else (oldC (farB n) l n 0 m 0)) := by rw [if_pos hn0]
        refine wp_skip (hJ13 _ _ ⟨_, hk.sub _ ⟨rfl, rfl, rfl, rfl, rfl, rfl, rfl, trivial⟩, hB, h_b5, h_b6, hR1, h_b12, hq16, hq⟩)

end Go.Proofs.YtidfbboalbchiaaDoor
