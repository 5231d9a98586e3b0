/- Part 9 of the texts that a claim's last texts stand on: A33. Conditions: those that each theorem names. -/
import Derived.Test.YtidfbboalbchiaaDoorT8
namespace Go.Proofs.YtidfbboalbchiaaDoor
open Go Go.RowKit

/-- A node of the longer tree. -/
structure Gr where
  root : List UInt8
  old : List UInt8
  has : Bool
def Gr.ok (g : Gr) : Prop := g.root.length = 16 ∧ g.old.length = 16
def gcl (g : Gr) : List Value := g.root.map B ++ g.old.map B ++ [.bool g.has]
def gc (g : Gr) : Array Value := (gcl g).toArray
theorem gc_size (g : Gr) (h : g.ok) : (gc g).size = 33 := by obtain ⟨h1, h2⟩ := h; simp [gc, gcl, h1, h2]
theorem gc_one (g : Gr) : ∀ u ∈ gc g, u.oneCell' = true := by
  intro u hu
  simp only [gc, gcl, List.mem_toArray, List.mem_append, List.mem_singleton] at hu
  rcases hu with (hu | hu) | rfl
  · exact bytes_one _ u hu
  · exact bytes_one _ u hu
  · rfl
theorem gc_enc : ∀ g : Gr, g.ok → (gc g).size = 33 ∧ ∀ u ∈ gc g, u.oneCell' = true := fun g h => ⟨gc_size g h, gc_one g⟩
theorem gc_root {w : World} {b : Nat} {t : TypeId} {fr : Nat × Nat} {g : Gr} (h : w.heap[b]? = some (.cells (gc g) t fr)) : w.rangeAt b (0 + 0) (g.root.map B) :=
  range_block h fun i hi => by
    simp only [Nat.zero_add]
    rw [gc, gcl, List.getElem?_toArray, List.append_assoc, List.getElem?_append_left hi]
theorem gc_old {w : World} {b : Nat} {t : TypeId} {fr : Nat × Nat} {g : Gr} (hg : g.ok) (h : w.heap[b]? = some (.cells (gc g) t fr)) : w.rangeAt b (0 + 16) (g.old.map B) :=
  range_block h fun i hi => by
    have h1 := hg.1
    rw [gc, gcl, List.getElem?_toArray, List.append_assoc, List.getElem?_append_right (by simp; omega), List.length_map, h1, show 0 + 16 + i - 16 = i by omega, List.getElem?_append_left hi]
theorem gc_has (g : Gr) (hg : g.ok) : (gc g)[0 + 32]? = some (.bool g.has) := by
  obtain ⟨h1, h2⟩ := hg
  rw [gc, gcl, List.getElem?_toArray, List.getElem?_append_right (by simp; omega)]
  simp [h1, h2]
theorem gc_zero : (Value.agg (List.replicate 32 (Value.int .u8 0) ++ [Value.bool false]).toArray).cells = gc ⟨zD, zD, false⟩ := by kernel_rfl
theorem fill147 (r o : List UInt8) (h : Bool) (hr : r.length = 16) (ho : o.length = 16) : Instr.fill (#[(0, 16), (16, 16), (32, 1)][·]?) (Value.agg (List.replicate 32 (Value.int .u8 0) ++ [Value.bool false]).toArray).cells [(0, D r), (1, D o), (2, .bool h)] = some (gc ⟨r, o, h⟩) := by
  have e0 : (Value.agg (List.replicate 32 (Value.int .u8 0) ++ [Value.bool false]).toArray).cells.toList = List.replicate 32 (B 0) ++ [Value.bool false] := by simp [Value.cells]
  have s0 : (Value.agg (List.replicate 32 (Value.int .u8 0) ++ [Value.bool false]).toArray).cells.size = 33 := by simp [Value.cells]
  rw [fill_part _ _ 0 (D r) (r.map B) 0 16 _ rfl rfl (by simp [hr]) (by rw [s0]; decide), e0]
  rw [fill_part _ _ 1 (D o) (o.map B) 16 16 _ rfl rfl (by simp [ho]) (by simp [hr])]
  rw [fill_part _ _ 2 (.bool h) [.bool h] 32 1 _ rfl rfl rfl (by simp [hr, ho])]
  rw [Instr.fill]
  have h1 : (r.map B).length = 16 := by simp [hr]
  have h2 : (o.map B).length = 16 := by simp [ho]
  have t1 := List.take_of_length_le (show (List.map B r).length ≤ 32 by omega)
  have t2 := List.drop_of_length_le (show (List.map B r).length ≤ 33 by omega)
  have t3 := List.drop_of_length_le (show (List.map B o).length ≤ 17 by omega)
  simp [gc, gcl, List.take_append, List.drop_append, h1, h2, t1, t2, t3]
/-- The old root is written. -/
theorem gc_set (g : Gr) (hg : g.ok) (o : List UInt8) (ho : o.length = 16) : ((gc g).toList.take (0 + 16) ++ o.map B ++ (gc g).toList.drop (0 + 16 + (o.map B).length)).toArray = gc ⟨g.root, o, g.has⟩ := by
  obtain ⟨h1, h2⟩ := hg
  have h3 : (g.root.map B).length = 16 := by simp [h1]
  have h4 : (g.old.map B).length = 16 := by simp [h2]
  simp [gc, gcl, List.drop_append, h3, h4, ho]
/-- Two nodes joined. -/
def gjn (x y : Gr) : Gr := ⟨nodeS x.root y.root, if y.has then nodeS x.old y.old else x.old, x.has⟩
theorem gjn_ok (x y : Gr) (hx : x.ok) : (gjn x y).ok := by
  refine ⟨length_nodeS _ _, ?_⟩
  unfold gjn
  simp only
  split
  · simp
  · exact hx.2

set_option maxRecDepth 4000 in
set_option maxHeartbeats 1000000 in
theorem c113 (l : List (List UInt8)) (n₀ : Nat) (adl : Option Addr) (cl bn bq bt a₀ b₀ c₀ : Nat) (w0 : World) (h_bt : w0.heap[bt]? = some (.cells (tkC adl cl l c₀) 141 (0, 0))) (hRl : Rdg w0 adl l.length cl l) (hne : ∀ b o, adl = some ⟨b, o, none⟩ → b ≠ bt) (hln : l.length ≤ 1152921504606846976) (hcn : c₀ ≤ 1152921504606846976)
    (h_bn : w0.heap[bn]? = some (.cells #[I (n₀ : Nat)] 3 (0, 0))) (h_bq : w0.heap[bq]? = some (.cells #[.pointer (some ⟨bt, 0, none⟩)] 139 (0, 0))) (n_bn_bt : bn ≠ bt) (n_bq_bt : bq ≠ bt)  :
    Calls Tryd.prog 113 #[I a₀, I b₀, .pointer (some ⟨bn, 0, none⟩), .pointer (some ⟨bq, 0, none⟩)] w0 fun e w' => ∃ x bb c', e = .returned (.tuple #[.agg (gc x), .bool bb]) ∧ x.ok ∧ Fra (fun _ k => k = bt) w0 w' ∧ w'.heap[bt]? = some (.cells (tkC adl cl l c') 141 (0, 0)) ∧
      (bb = true → farB n₀ a₀ b₀ = true ∧ x = ⟨l.getD c₀ zD, l.getD c₀ zD, decide (b₀ ≤ n₀)⟩ ∧ c' = c₀ + 1) ∧ (bb = false → c' = c₀ ∧ farB n₀ a₀ b₀ = false) := by
  rcases (by omega : b₀ ≤ n₀ ∨ (¬ b₀ ≤ n₀ ∧ n₀ ≤ a₀) ∨ (¬ b₀ ≤ n₀ ∧ ¬ n₀ ≤ a₀)) with hc | hc | hc
  · have hd := getD16 hRl.2 c₀
    have ho : farB n₀ a₀ b₀ = true := by unfold farB; simp; omega
    refine start 26 Tryd.func113 rfl rfl rfl fun a hk => ?_
    have hF := Fra.refl (fun _ k => k = bt) w0
    refine wp_seq_k fun K1 hK1 => ?_
    refine wp_region_lit ?_
    refine la hk rfl (a_alloc hk rfl zr147 fun a w b6 hk G => ?_)
    have n_bt_b6 : bt ≠ b6 := G.ne h_bt
    have n_bn_b6 : bn ≠ b6 := G.ne h_bn
    have n_bq_b6 : bq ≠ b6 := G.ne h_bq
    have hg_b6 : w0.heap.size ≤ b6 := Nat.le_trans hF.size G.ge
    have h_bt := ext_at G.ext h_bt
    have h_bn := ext_at G.ext h_bn
    have h_bq := ext_at G.ext h_bq
    have hF := hF.trans (Fra.ext G.ext (fun _ h => h))
    have h_b6 := G.at_
    clear G
    refine ls hk rfl rfl rfl (e_assign hk rfl _) fun a hk => ?_
    refine lnil (hK1 _ _ ?_)
    refine wp_seq_k fun K2 hK2 => ?_
    refine wp_seq_k fun K3 hK3 => ?_
    refine wp_region_lit ?_
    refine ls hk rfl rfl rfl (e_move hk rfl _) fun a hk => ?_
    refine ls hk rfl rfl rfl (r_ld1 hk rfl Tryd.underlying3 rfl h_bn) fun a hk => ?_
    refine ls hk rfl rfl rfl (e_gtr (b := false) hk rfl rfl (decide_eq_false (by omega)) _) fun a hk => ?_
    refine ls hk rfl rfl rfl (e_move hk rfl _) fun a hk => ?_
    refine lno hk rfl rfl rfl fun a hk => ?_
    refine lno hk rfl rfl rfl fun a hk => ?_
    refine lno hk rfl rfl rfl fun a hk => ?_
    refine ls hk rfl rfl rfl (e_pickF hk rfl rfl _) fun a hk => ?_
    refine lnil (hK3 _ _ ?_)
    refine cdF hk rfl ?_
    refine wp_skip (hK2 _ _ ?_)
    refine wp_seq_k fun K4 hK4 => ?_
    refine wp_region_lit ?_
    refine ls hk rfl rfl rfl (r_ld1 hk rfl Tryd.underlying139 rfl h_bq) fun a hk => ?_
    refine la hk rfl (a_call hk rfl rfl (c_fn hk rfl ok107) (c107 l adl cl bt c₀ _ h_bt (Rdg.fra hRl hF hne) hne hln hcn) ?_)
    rintro e w ⟨rfl, hE, hbt2⟩
    refine ⟨_, rfl, fun a hk => ?_⟩
    have h_bt := hbt2
    have h_bn := hE.at_ n_bn_bt h_bn
    have h_bq := hE.at_ n_bq_bt h_bq
    have h_b6 := hE.at_ (Ne.symm n_bt_b6) h_b6
    have hF := hF.trans hE
    clear hE
    refine la hk rfl (a_alloc hk rfl zr44 fun a w b8 hk G => ?_)
    have n_bt_b8 : bt ≠ b8 := G.ne h_bt
    have n_bn_b8 : bn ≠ b8 := G.ne h_bn
    have n_bq_b8 : bq ≠ b8 := G.ne h_bq
    have n_b6_b8 : b6 ≠ b8 := G.ne h_b6
    have hg_b8 : w0.heap.size ≤ b8 := Nat.le_trans hF.size G.ge
    have h_bt := ext_at G.ext h_bt
    have h_bn := ext_at G.ext h_bn
    have h_bq := ext_at G.ext h_bq
    have h_b6 := ext_at G.ext h_b6
    have hF := hF.trans (Fra.ext G.ext (fun _ h => h))
    have h_b8 := G.at_
    clear G
    refine la hk rfl (a_st44 (l := l.getD c₀ zD) hk rfl rfl hd h_b8 rfl fun a w hk W => ?_)
    have h_bt := W.keep n_bt_b8 h_bt
    have h_bn := W.keep n_bn_b8 h_bn
    have h_bq := W.keep n_bq_b8 h_bq
    have h_b6 := W.keep n_b6_b8 h_b6
    have hF := hF.wrote W hg_b8 (fun _ h => h)
    have h_b8 := W.at_
    clear W
    refine lnil (hK4 _ _ ?_)
    refine wp_seq_k fun K5 hK5 => ?_
    refine wp_region_lit ?_
    refine ls hk rfl rfl rfl (r_ld44 hk rfl h_b8 hd) fun a hk => ?_
    refine ls hk rfl rfl rfl (r_ld44 hk rfl h_b8 hd) fun a hk => ?_
    refine ls hk rfl rfl rfl (e_move hk rfl _) fun a hk => ?_
    refine ls hk rfl rfl rfl (r_ld1 hk rfl Tryd.underlying3 rfl h_bn) fun a hk => ?_
    refine ls hk rfl rfl rfl (e_leq (b := decide (b₀ ≤ n₀)) hk rfl rfl (by apply decide_eq_decide.2; omega) _) fun a hk => ?_
    refine ls hk rfl rfl rfl (e_buildS (cells := gc ⟨l.getD c₀ zD, l.getD c₀ zD, decide (b₀ ≤ n₀)⟩) (pl := #[(0, 16), (16, 16), (32, 1)]) hk rfl zr147 Tryd.underlying147 (fun w => by kernel_rfl) (fill147 _ _ _ hd hd) _) fun a hk => ?_
    refine la hk rfl (a_storeB (cs' := gc ⟨l.getD c₀ zD, l.getD c₀ zD, decide (b₀ ≤ n₀)⟩) hk rfl rfl (gc_one _) (by rw [sz147, gc_size _ ⟨hd, hd⟩]) h_b6 (by rw [gc_size _ ⟨hd, hd⟩]; first | rfl | simp [Value.cells]) fun a w hk W => ?_)
    have h_bt := W.keep n_bt_b6 h_bt
    have h_bn := W.keep n_bn_b6 h_bn
    have h_bq := W.keep n_bq_b6 h_bq
    have h_b8 := W.keep (Ne.symm n_b6_b8) h_b8
    have hF := hF.wrote W hg_b6 (fun _ h => h)
    have h_b6 := W.at_
    clear W
    refine ls hk rfl rfl rfl (e_assign hk rfl _) fun a hk => ?_
    refine lnil (hK5 _ _ ?_)
    refine wp_ret ?_
    exact retA1 hk rfl rfl rfl h_b6 Tryd.underlying147 rfl (by rw [sz147, gc_size _ ⟨hd, hd⟩]) ⟨_, _, _, rfl, ⟨hd, hd⟩, hF, h_bt, fun _ => ⟨ho, rfl, rfl⟩, by simp⟩
  · have hd := getD16 hRl.2 c₀
    have ho : farB n₀ a₀ b₀ = true := by unfold farB; simp; omega
    refine start 26 Tryd.func113 rfl rfl rfl fun a hk => ?_
    have hF := Fra.refl (fun _ k => k = bt) w0
    refine wp_seq_k fun K1 hK1 => ?_
    refine wp_region_lit ?_
    refine la hk rfl (a_alloc hk rfl zr147 fun a w b6 hk G => ?_)
    have n_bt_b6 : bt ≠ b6 := G.ne h_bt
    have n_bn_b6 : bn ≠ b6 := G.ne h_bn
    have n_bq_b6 : bq ≠ b6 := G.ne h_bq
    have hg_b6 : w0.heap.size ≤ b6 := Nat.le_trans hF.size G.ge
    have h_bt := ext_at G.ext h_bt
    have h_bn := ext_at G.ext h_bn
    have h_bq := ext_at G.ext h_bq
    have hF := hF.trans (Fra.ext G.ext (fun _ h => h))
    have h_b6 := G.at_
    clear G
    refine ls hk rfl rfl rfl (e_assign hk rfl _) fun a hk => ?_
    refine lnil (hK1 _ _ ?_)
    refine wp_seq_k fun K2 hK2 => ?_
    refine wp_seq_k fun K3 hK3 => ?_
    refine wp_region_lit ?_
    refine ls hk rfl rfl rfl (e_move hk rfl _) fun a hk => ?_
    refine ls hk rfl rfl rfl (r_ld1 hk rfl Tryd.underlying3 rfl h_bn) fun a hk => ?_
    refine ls hk rfl rfl rfl (e_gtr (b := true) hk rfl rfl (decide_eq_true (by omega)) _) fun a hk => ?_
    refine ls hk rfl rfl rfl (e_move hk rfl _) fun a hk => ?_
    refine ls hk rfl rfl rfl (e_move hk rfl _) fun a hk => ?_
    refine ls hk rfl rfl rfl (r_ld1 hk rfl Tryd.underlying3 rfl h_bn) fun a hk => ?_
    refine ls hk rfl rfl rfl (e_lss (b := false) hk rfl rfl (decide_eq_false (by omega)) _) fun a hk => ?_
    refine ls hk rfl rfl rfl (e_pickT hk rfl rfl _) fun a hk => ?_
    refine lnil (hK3 _ _ ?_)
    refine cdF hk rfl ?_
    refine wp_skip (hK2 _ _ ?_)
    refine wp_seq_k fun K4 hK4 => ?_
    refine wp_region_lit ?_
    refine ls hk rfl rfl rfl (r_ld1 hk rfl Tryd.underlying139 rfl h_bq) fun a hk => ?_
    refine la hk rfl (a_call hk rfl rfl (c_fn hk rfl ok107) (c107 l adl cl bt c₀ _ h_bt (Rdg.fra hRl hF hne) hne hln hcn) ?_)
    rintro e w ⟨rfl, hE, hbt2⟩
    refine ⟨_, rfl, fun a hk => ?_⟩
    have h_bt := hbt2
    have h_bn := hE.at_ n_bn_bt h_bn
    have h_bq := hE.at_ n_bq_bt h_bq
    have h_b6 := hE.at_ (Ne.symm n_bt_b6) h_b6
    have hF := hF.trans hE
    clear hE
    refine la hk rfl (a_alloc hk rfl zr44 fun a w b8 hk G => ?_)
    have n_bt_b8 : bt ≠ b8 := G.ne h_bt
    have n_bn_b8 : bn ≠ b8 := G.ne h_bn
    have n_bq_b8 : bq ≠ b8 := G.ne h_bq
    have n_b6_b8 : b6 ≠ b8 := G.ne h_b6
    have hg_b8 : w0.heap.size ≤ b8 := Nat.le_trans hF.size G.ge
    have h_bt := ext_at G.ext h_bt
    have h_bn := ext_at G.ext h_bn
    have h_bq := ext_at G.ext h_bq
    have h_b6 := ext_at G.ext h_b6
    have hF := hF.trans (Fra.ext G.ext (fun _ h => h))
    have h_b8 := G.at_
    clear G
    refine la hk rfl (a_st44 (l := l.getD c₀ zD) hk rfl rfl hd h_b8 rfl fun a w hk W => ?_)
    have h_bt := W.keep n_bt_b8 h_bt
    have h_bn := W.keep n_bn_b8 h_bn
    have h_bq := W.keep n_bq_b8 h_bq
    have h_b6 := W.keep n_b6_b8 h_b6
    have hF := hF.wrote W hg_b8 (fun _ h => h)
    have h_b8 := W.at_
    clear W
    refine lnil (hK4 _ _ ?_)
    refine wp_seq_k fun K5 hK5 => ?_
    refine wp_region_lit ?_
    refine ls hk rfl rfl rfl (r_ld44 hk rfl h_b8 hd) fun a hk => ?_
    refine ls hk rfl rfl rfl (r_ld44 hk rfl h_b8 hd) fun a hk => ?_
    refine ls hk rfl rfl rfl (e_move hk rfl _) fun a hk => ?_
    refine ls hk rfl rfl rfl (r_ld1 hk rfl Tryd.underlying3 rfl h_bn) fun a hk => ?_
    refine ls hk rfl rfl rfl (e_leq (b := decide (b₀ ≤ n₀)) hk rfl rfl (by apply decide_eq_decide.2; omega) _) fun a hk => ?_
    refine ls hk rfl rfl rfl (e_buildS (cells := gc ⟨l.getD c₀ zD, l.getD c₀ zD, decide (b₀ ≤ n₀)⟩) (pl := #[(0, 16), (16, 16), (32, 1)]) hk rfl zr147 Tryd.underlying147 (fun w => by kernel_rfl) (fill147 _ _ _ hd hd) _) fun a hk => ?_
    refine la hk rfl (a_storeB (cs' := gc ⟨l.getD c₀ zD, l.getD c₀ zD, decide (b₀ ≤ n₀)⟩) hk rfl rfl (gc_one _) (by rw [sz147, gc_size _ ⟨hd, hd⟩]) h_b6 (by rw [gc_size _ ⟨hd, hd⟩]; first | rfl | simp [Value.cells]) fun a w hk W => ?_)
    have h_bt := W.keep n_bt_b6 h_bt
    have h_bn := W.keep n_bn_b6 h_bn
    have h_bq := W.keep n_bq_b6 h_bq
    have h_b8 := W.keep (Ne.symm n_b6_b8) h_b8
    have hF := hF.wrote W hg_b6 (fun _ h => h)
    have h_b6 := W.at_
    clear W
    refine ls hk rfl rfl rfl (e_assign hk rfl _) fun a hk => ?_
    refine lnil (hK5 _ _ ?_)
    refine wp_ret ?_
    exact retA1 hk rfl rfl rfl h_b6 Tryd.underlying147 rfl (by rw [sz147, gc_size _ ⟨hd, hd⟩]) ⟨_, _, _, rfl, ⟨hd, hd⟩, hF, h_bt, fun _ => ⟨ho, rfl, rfl⟩, by simp⟩
  · have ho : farB n₀ a₀ b₀ = false := by unfold farB; simp; omega
    have hz : (⟨zD, zD, false⟩ : Gr).ok := ⟨rfl, rfl⟩
    refine start 26 Tryd.func113 rfl rfl rfl fun a hk => ?_
    have hF := Fra.refl (fun _ k => k = bt) w0
    refine wp_seq_k fun K1 hK1 => ?_
    refine wp_region_lit ?_
    refine la hk rfl (a_alloc hk rfl zr147 fun a w b6 hk G => ?_)
    have n_bt_b6 : bt ≠ b6 := G.ne h_bt
    have n_bn_b6 : bn ≠ b6 := G.ne h_bn
    have n_bq_b6 : bq ≠ b6 := G.ne h_bq
    have hg_b6 : w0.heap.size ≤ b6 := Nat.le_trans hF.size G.ge
    have h_bt := ext_at G.ext h_bt
    have h_bn := ext_at G.ext h_bn
    have h_bq := ext_at G.ext h_bq
    have hF := hF.trans (Fra.ext G.ext (fun _ h => h))
    have h_b6 := G.at_
    clear G
    refine ls hk rfl rfl rfl (e_assign hk rfl _) fun a hk => ?_
    refine lnil (hK1 _ _ ?_)
    refine wp_seq_k fun K2 hK2 => ?_
    refine wp_seq_k fun K3 hK3 => ?_
    refine wp_region_lit ?_
    refine ls hk rfl rfl rfl (e_move hk rfl _) fun a hk => ?_
    refine ls hk rfl rfl rfl (r_ld1 hk rfl Tryd.underlying3 rfl h_bn) fun a hk => ?_
    refine ls hk rfl rfl rfl (e_gtr (b := true) hk rfl rfl (decide_eq_true (by omega)) _) fun a hk => ?_
    refine ls hk rfl rfl rfl (e_move hk rfl _) fun a hk => ?_
    refine ls hk rfl rfl rfl (e_move hk rfl _) fun a hk => ?_
    refine ls hk rfl rfl rfl (r_ld1 hk rfl Tryd.underlying3 rfl h_bn) fun a hk => ?_
    refine ls hk rfl rfl rfl (e_lss (b := true) hk rfl rfl (decide_eq_true (by omega)) _) fun a hk => ?_
    refine ls hk rfl rfl rfl (e_pickT hk rfl rfl _) fun a hk => ?_
    refine lnil (hK3 _ _ ?_)
    refine cdT hk rfl ?_
    refine wp_seq_k fun K4 hK4 => ?_
    refine wp_region_lit ?_
    refine ls hk rfl rfl rfl (e_buildS (ps := []) (vs := []) (cells := gc ⟨zD, zD, false⟩) (pl := #[(0, 16), (16, 16), (32, 1)]) hk rfl zr147 Tryd.underlying147 (fun w => by kernel_rfl) (by rw [Instr.fill, gc_zero]) _) fun a hk => ?_
    refine la hk rfl (a_storeB (cs' := gc ⟨zD, zD, false⟩) hk rfl rfl (gc_one _) (by rw [sz147, gc_size _ hz]) h_b6 (by rw [gc_size _ hz]; first | rfl | simp [Value.cells]) fun a w hk W => ?_)
    have h_bt := W.keep n_bt_b6 h_bt
    have h_bn := W.keep n_bn_b6 h_bn
    have h_bq := W.keep n_bq_b6 h_bq
    have hF := hF.wrote W hg_b6 (fun _ h => h)
    have h_b6 := W.at_
    clear W
    refine ls hk rfl rfl rfl (e_assign hk rfl _) fun a hk => ?_
    refine lnil (hK4 _ _ ?_)
    refine wp_ret ?_
    simp only [then_ret]
    exact retA1 hk rfl rfl rfl h_b6 Tryd.underlying147 rfl (by rw [sz147, gc_size _ hz]) ⟨_, _, c₀, rfl, hz, hF, h_bt, by simp, fun _ => ⟨rfl, ho⟩⟩

set_option maxRecDepth 4000 in
set_option maxHeartbeats 1000000 in
theorem c114 (x y : Gr) (hx : x.ok) (hy : y.ok) (w0 : World) (hG : GH w0) : Calls Tryd.prog 114 #[.agg (gc x), .agg (gc y)] w0 fun e w' => e = .returned (.agg (gc (gjn x y))) ∧ Ext w0 w' := by
  refine start 25 Tryd.func114 rfl rfl rfl fun a hk => ?_
  have hB : Ext w0 w0 := Below.refl _ _
  refine wp_seq_k fun K1 hK1 => ?_
  refine wp_region_lit ?_
  refine la hk rfl (a_box hk rfl rfl fun a w b2 hk G => ?_)
  have hg_b2 : w0.heap.size ≤ b2 := Nat.le_trans hB.size G.ge
  have hB := ext_trans hB G.ext
  have h_b2 := G.at_
  clear G
  refine la hk rfl (a_box hk rfl rfl fun a w b3 hk G => ?_)
  have n_b2_b3 : b2 ≠ b3 := G.ne h_b2
  have hg_b3 : w0.heap.size ≤ b3 := Nat.le_trans hB.size G.ge
  have h_b2 := ext_at G.ext h_b2
  have hB := ext_trans hB G.ext
  have h_b3 := G.at_
  clear G
  refine la hk rfl (a_alloc hk rfl zr147 fun a w b4 hk G => ?_)
  have n_b2_b4 : b2 ≠ b4 := G.ne h_b2
  have n_b3_b4 : b3 ≠ b4 := G.ne h_b3
  have hg_b4 : w0.heap.size ≤ b4 := Nat.le_trans hB.size G.ge
  have h_b2 := ext_at G.ext h_b2
  have h_b3 := ext_at G.ext h_b3
  have hB := ext_trans hB G.ext
  have h_b4 := G.at_
  clear G
  refine lnil (hK1 _ _ ?_)
  refine wp_seq_k fun K2 hK2 => ?_
  refine wp_region_ok (fun _ => True) [] mixed ?_
  have h2 := ext_at (ext_drew w) h_b2
  have h3 := ext_at (ext_drew w) h_b3
  have h4 := ext_at (ext_drew w) h_b4
  have hB := hB.drew
  clear h_b2 h_b3 h_b4
  refine okFront (fun k => Nat.blt k 11) (fun d a w => ∃ v0 v1 v2 v3 v4 v5 v6 v7 v8 v9 v10 : Value, Kn a 25 [(6, v0), (7, v1), (8, v2), (9, v3), (10, v4), (11, v5), (12, v6), (13, v7), (14, v8), (15, v9), (5, v10), (2, .pointer (some ⟨b2, 0, none⟩)), (3, .pointer (some ⟨b3, 0, none⟩)), (4, .pointer (some ⟨b4, 0, none⟩))] ∧ (Below w0.heap.size w0 w) ∧ (w.heap[b2]? = some (.cells (gc x) 147 (0, 0))) ∧ (w.heap[b3]? = some (.cells (gc y) 147 (0, 0))) ∧ (w.heap[b4]? = some (.cells (Value.agg (List.replicate 32 (Value.int .u8 0) ++ [Value.bool false]).toArray).cells 147 (0, 0))) ∧ (d 0 = true → v0 = .pointer (some ⟨b2, 0 + 0, none⟩)) ∧ (d 1 = true → v1 = D x.root) ∧ (d 2 = true → v2 = .pointer (some ⟨b3, 0 + 0, none⟩)) ∧ (d 3 = true → v3 = D y.root) ∧ (d 4 = true → v4 = D (nodeS x.root y.root)) ∧ (d 5 = true → v5 = .pointer (some ⟨b2, 0 + 16, none⟩)) ∧ (d 6 = true → v6 = D x.old) ∧ (d 7 = true → v7 = .pointer (some ⟨b2, 0 + 32, none⟩)) ∧ (d 8 = true → v8 = .bool x.has) ∧ (d 9 = true → v9 = .agg (gc ⟨nodeS x.root y.root, x.old, x.has⟩)) ∧ (d 10 = true → ∃ b, v10 = .pointer (some ⟨b, 0, none⟩) ∧ w0.heap.size ≤ b ∧ b ≠ b2 ∧ b ≠ b3 ∧ b ≠ b4 ∧ w.heap[b]? = some (.cells (Value.agg (List.replicate 32 (Value.int .u8 0) ++ [Value.bool false]).toArray).cells 147 (0, 0)))) 1 (by kernel_rfl) (fun k hk => Nat.lt_of_lt_of_le (blt_lt hk) (by decide)) ⟨_, _, _, _, _, _, _, _, _, _, _, (((((((((((hk.own 5).own 15).own 14).own 13).own 12).own 11).own 10).own 9).own 8).own 7).own 6).sub _ ⟨rfl, rfl, rfl, rfl, rfl, rfl, rfl, rfl, rfl, rfl, rfl, rfl, rfl, rfl, trivial⟩, hB, h2, h3, h4, fun h => noF h, fun h => noF h, fun h => noF h, fun h => noF h, fun h => noF h, fun h => noF h, fun h => noF h, fun h => noF h, fun h => noF h, fun h => noF h, fun h => noF h⟩ (fun a w hJ => ?_) ?_
  · obtain ⟨v0, v1, v2, v3, v4, v5, v6, v7, v8, v9, v10, hk, hB, h2, h3, h4, f0, f1, f2, f3, f4, f5, f6, f7, f8, f9, f10⟩ := hJ
    have p0 := f0 rfl
    have p1 := f1 rfl
    have p2 := f2 rfl
    have p3 := f3 rfl
    have p4 := f4 rfl
    have p5 := f5 rfl
    have p6 := f6 rfl
    have p7 := f7 rfl
    have p8 := f8 rfl
    have p9 := f9 rfl
    have p10 := f10 rfl
    obtain ⟨b5, rfl, hg_b5, n_b5_b2, n_b5_b3, n_b5_b4, h_b5⟩ := p10
    subst p9
    clear p0 p1 p2 p3 p4 p5 p6 p7 p8
    have hjo : (⟨nodeS x.root y.root, x.old, x.has⟩ : Gr).ok := ⟨by simp, hx.2⟩
    refine da 11 hk rfl (by kernel_rfl) rfl rfl (a_storeB (cs' := gc ⟨nodeS x.root y.root, x.old, x.has⟩) hk rfl rfl (gc_one _) (by rw [sz147, gc_size _ hjo]) h_b5 (by rw [gc_size _ hjo]; simp [Value.cells]) fun a w hk W => ?_)
    have h2 := W.keep (Ne.symm n_b5_b2) h2
    have h3 := W.keep (Ne.symm n_b5_b3) h3
    have h4 := W.keep (Ne.symm n_b5_b4) h4
    have hB := W.below hB hg_b5
    have h_b5 := W.at_
    clear W
    refine okFin (by kernel_rfl) (hK2 _ _ ?_)
    have h_b2 := h2
    have h_b3 := h3
    have h_b4 := h4
    clear h2 h3 h4
    refine wp_seq_k fun K3 hK3 => ?_
    refine wp_seq_k fun K4 hK4 => ?_
    refine wp_region_lit ?_
    refine ls hk rfl rfl rfl (e_field (off := 32) hk rfl Tryd.underlying147 rfl rfl nz4 _) fun a hk => ?_
    refine ls hk rfl rfl rfl (r_load hk rfl Tryd.underlying4 rfl h_b3 (gc_has y hy)) fun a hk => ?_
    refine lnil (hK4 _ _ ?_)
    refine cdB hk rfl (fun hb => ?_) (fun hb => ?_)
    · have hgj : gjn x y = ⟨nodeS x.root y.root, nodeS x.old y.old, x.has⟩ := by unfold gjn; rw [hb]; rfl
      have hjo2 : (⟨nodeS x.root y.root, nodeS x.old y.old, x.has⟩ : Gr).ok := ⟨by simp, by simp⟩
      refine wp_region_lit ?_
      refine ls hk rfl rfl rfl (e_field (off := 16) hk rfl Tryd.underlying147 rfl rfl nz44 _) fun a hk => ?_
      refine ls hk rfl rfl rfl (r_ldR44 hk rfl (gc_old hx h_b2) hx.2) fun a hk => ?_
      refine ls hk rfl rfl rfl (e_field (off := 16) hk rfl Tryd.underlying147 rfl rfl nz44 _) fun a hk => ?_
      refine ls hk rfl rfl rfl (r_ldR44 hk rfl (gc_old hy h_b3) hy.2) fun a hk => ?_
      refine la hk rfl (a_call hk rfl rfl (c_fn hk rfl ok109) (c109 x.old y.old _ (hG.ext hB) hx.2 hy.2) ?_)
      rintro e w ⟨rfl, hE⟩
      refine ⟨_, rfl, fun a hk => ?_⟩
      have h_b2 := ext_at hE h_b2
      have h_b3 := ext_at hE h_b3
      have h_b4 := ext_at hE h_b4
      have h_b5 := ext_at hE h_b5
      have hB := ext_trans hB hE
      clear hE
      refine ls hk rfl rfl rfl (e_field (off := 16) hk rfl Tryd.underlying147 rfl rfl nz44 _) fun a hk => ?_
      refine la hk rfl (a_storeR (xs := (nodeS x.old y.old).map B) hk rfl rfl (bytes_one _) (by rw [sz44]; simp) h_b5 (by rw [gc_size _ hjo]; simp) fun a w hk W => ?_)
      have h_b2 := W.keep (Ne.symm n_b5_b2) h_b2
      have h_b3 := W.keep (Ne.symm n_b5_b3) h_b3
      have h_b4 := W.keep (Ne.symm n_b5_b4) h_b4
      have hB := W.below hB hg_b5
      have h_b5 := W.at_
      clear W
      rw [gc_set _ hjo _ (by simp)] at h_b5
      refine lnil (hK3 _ _ ?_)
      refine wp_seq_k fun K5 hK5 => ?_
      refine wp_region_lit ?_
      refine ls hk rfl rfl rfl (r_loadB hk rfl h_b5 Tryd.underlying147 rfl (by rw [sz147, gc_size _ hjo2])) fun a hk => ?_
      refine la hk rfl (a_storeB hk rfl rfl (gc_one _) (by rw [sz147, gc_size _ hjo2]) h_b4 (by rw [gc_size _ hjo2]; simp [Value.cells]) fun a w hk W => ?_)
      have h_b2 := W.keep n_b2_b4 h_b2
      have h_b3 := W.keep n_b3_b4 h_b3
      have h_b5 := W.keep n_b5_b4 h_b5
      have hB := W.below hB hg_b4
      have h_b4 := W.at_
      clear W
      refine lnil (hK5 _ _ ?_)
      refine wp_ret ?_
      exact retA hk rfl rfl h_b4 Tryd.underlying147 rfl (by rw [sz147, gc_size _ hjo2]) ⟨by rw [hgj], hB⟩
    · have hgj : gjn x y = ⟨nodeS x.root y.root, x.old, x.has⟩ := by unfold gjn; rw [hb]; rfl
      have hjo2 := hjo
      refine wp_skip (hK3 _ _ ?_)
      refine wp_seq_k fun K6 hK6 => ?_
      refine wp_region_lit ?_
      refine ls hk rfl rfl rfl (r_loadB hk rfl h_b5 Tryd.underlying147 rfl (by rw [sz147, gc_size _ hjo2])) fun a hk => ?_
      refine la hk rfl (a_storeB hk rfl rfl (gc_one _) (by rw [sz147, gc_size _ hjo2]) h_b4 (by rw [gc_size _ hjo2]; simp [Value.cells]) fun a w hk W => ?_)
      have h_b2 := W.keep n_b2_b4 h_b2
      have h_b3 := W.keep n_b3_b4 h_b3
      have h_b5 := W.keep n_b5_b4 h_b5
      have hB := W.below hB hg_b4
      have h_b4 := W.at_
      clear W
      refine lnil (hK6 _ _ ?_)
      refine wp_ret ?_
      exact retA hk rfl rfl h_b4 Tryd.underlying147 rfl (by rw [sz147, gc_size _ hjo2]) ⟨by rw [hgj], hB⟩
  refine ⟨?_, ?_, ?_, ?_, ?_, ?_, ?_, ?_, ?_, ?_, ?_, ?_, trivial⟩
  · intro _ d a w hr hJ
    obtain ⟨v0, v1, v2, v3, v4, v5, v6, v7, v8, v9, v10, hk, hB, h2, h3, h4, f0, f1, f2, f3, f4, f5, f6, f7, f8, f9, f10⟩ := hJ
    refine wa hk rfl rfl ?_
    refine ev_act hk rfl rfl (e_field (off := 0) hk rfl Tryd.underlying147 rfl rfl nz44 _) fun a hk => ?_
    have new : (Value.pointer (some ⟨b2, 0 + 0, none⟩)) = .pointer (some ⟨b2, 0 + 0, none⟩) := rfl
    exact ⟨_, _, _, _, _, _, _, _, _, _, _, hk.sub _ ⟨rfl, rfl, rfl, rfl, rfl, rfl, rfl, rfl, rfl, rfl, rfl, rfl, rfl, rfl, trivial⟩, hB, h2, h3, h4, fun _ => new, fun h => f1 h, fun h => f2 h, fun h => f3 h, fun h => f4 h, fun h => f5 h, fun h => f6 h, fun h => f7 h, fun h => f8 h, fun h => f9 h, fun h => f10 h⟩
  · intro _ d a w hr hJ
    obtain ⟨v0, v1, v2, v3, v4, v5, v6, v7, v8, v9, v10, hk, hB, h2, h3, h4, f0, f1, f2, f3, f4, f5, f6, f7, f8, f9, f10⟩ := hJ
    obtain rfl := f0 (rdy_pre hr 0 (by kernel_rfl))
    refine wa hk rfl rfl ?_
    refine ev_act hk rfl rfl (r_ldR44 hk rfl (gc_root h2) hx.1) fun a hk => ?_
    have new : D x.root = D x.root := rfl
    exact ⟨_, _, _, _, _, _, _, _, _, _, _, hk.sub _ ⟨rfl, rfl, rfl, rfl, rfl, rfl, rfl, rfl, rfl, rfl, rfl, rfl, rfl, rfl, trivial⟩, hB, h2, h3, h4, fun h => f0 h, fun _ => new, fun h => f2 h, fun h => f3 h, fun h => f4 h, fun h => f5 h, fun h => f6 h, fun h => f7 h, fun h => f8 h, fun h => f9 h, fun h => f10 h⟩
  · intro _ d a w hr hJ
    obtain ⟨v0, v1, v2, v3, v4, v5, v6, v7, v8, v9, v10, hk, hB, h2, h3, h4, f0, f1, f2, f3, f4, f5, f6, f7, f8, f9, f10⟩ := hJ
    refine wa hk rfl rfl ?_
    refine ev_act hk rfl rfl (e_field (off := 0) hk rfl Tryd.underlying147 rfl rfl nz44 _) fun a hk => ?_
    have new : (Value.pointer (some ⟨b3, 0 + 0, none⟩)) = .pointer (some ⟨b3, 0 + 0, none⟩) := rfl
    exact ⟨_, _, _, _, _, _, _, _, _, _, _, hk.sub _ ⟨rfl, rfl, rfl, rfl, rfl, rfl, rfl, rfl, rfl, rfl, rfl, rfl, rfl, rfl, trivial⟩, hB, h2, h3, h4, fun h => f0 h, fun h => f1 h, fun _ => new, fun h => f3 h, fun h => f4 h, fun h => f5 h, fun h => f6 h, fun h => f7 h, fun h => f8 h, fun h => f9 h, fun h => f10 h⟩
  · intro _ d a w hr hJ
    obtain ⟨v0, v1, v2, v3, v4, v5, v6, v7, v8, v9, v10, hk, hB, h2, h3, h4, f0, f1, f2, f3, f4, f5, f6, f7, f8, f9, f10⟩ := hJ
    obtain rfl := f2 (rdy_pre hr 2 (by kernel_rfl))
    refine wa hk rfl rfl ?_
    refine ev_act hk rfl rfl (r_ldR44 hk rfl (gc_root h3) hy.1) fun a hk => ?_
    have new : D y.root = D y.root := rfl
    exact ⟨_, _, _, _, _, _, _, _, _, _, _, hk.sub _ ⟨rfl, rfl, rfl, rfl, rfl, rfl, rfl, rfl, rfl, rfl, rfl, rfl, rfl, rfl, trivial⟩, hB, h2, h3, h4, fun h => f0 h, fun h => f1 h, fun h => f2 h, fun _ => new, fun h => f4 h, fun h => f5 h, fun h => f6 h, fun h => f7 h, fun h => f8 h, fun h => f9 h, fun h => f10 h⟩
  · intro _ d a w hr hJ
    obtain ⟨v0, v1, v2, v3, v4, v5, v6, v7, v8, v9, v10, hk, hB, h2, h3, h4, f0, f1, f2, f3, f4, f5, f6, f7, f8, f9, f10⟩ := hJ
    obtain rfl := f1 (rdy_pre hr 1 (by kernel_rfl))
    obtain rfl := f3 (rdy_pre hr 3 (by kernel_rfl))
    refine wa hk rfl rfl ?_
    refine a_call hk rfl rfl (c_fn hk rfl ok109) (c109 x.root y.root _ (hG.ext hB) hx.1 hy.1) ?_
    rintro e w' ⟨rfl, hE⟩
    refine ⟨_, rfl, fun a hk => ?_⟩
    have new : D (nodeS x.root y.root) = D (nodeS x.root y.root) := rfl
    exact ⟨_, _, _, _, _, _, _, _, _, _, _, hk.sub _ ⟨rfl, rfl, rfl, rfl, rfl, rfl, rfl, rfl, rfl, rfl, rfl, rfl, rfl, rfl, trivial⟩, ext_trans hB hE, ext_at hE h2, ext_at hE h3, ext_at hE h4, fun h => f0 h, fun h => f1 h, fun h => f2 h, fun h => f3 h, fun _ => new, fun h => f5 h, fun h => f6 h, fun h => f7 h, fun h => f8 h, fun h => f9 h, fun h => by have f := f10 h; exact by obtain ⟨b, e, g, n2, n3, n4, h⟩ := f; exact ⟨b, e, g, n2, n3, n4, ext_at hE h⟩⟩
  · intro _ d a w hr hJ
    obtain ⟨v0, v1, v2, v3, v4, v5, v6, v7, v8, v9, v10, hk, hB, h2, h3, h4, f0, f1, f2, f3, f4, f5, f6, f7, f8, f9, f10⟩ := hJ
    refine wa hk rfl rfl ?_
    refine ev_act hk rfl rfl (e_field (off := 16) hk rfl Tryd.underlying147 rfl rfl nz44 _) fun a hk => ?_
    have new : (Value.pointer (some ⟨b2, 0 + 16, none⟩)) = .pointer (some ⟨b2, 0 + 16, none⟩) := rfl
    exact ⟨_, _, _, _, _, _, _, _, _, _, _, hk.sub _ ⟨rfl, rfl, rfl, rfl, rfl, rfl, rfl, rfl, rfl, rfl, rfl, rfl, rfl, rfl, trivial⟩, hB, h2, h3, h4, fun h => f0 h, fun h => f1 h, fun h => f2 h, fun h => f3 h, fun h => f4 h, fun _ => new, fun h => f6 h, fun h => f7 h, fun h => f8 h, fun h => f9 h, fun h => f10 h⟩
  · intro _ d a w hr hJ
    obtain ⟨v0, v1, v2, v3, v4, v5, v6, v7, v8, v9, v10, hk, hB, h2, h3, h4, f0, f1, f2, f3, f4, f5, f6, f7, f8, f9, f10⟩ := hJ
    obtain rfl := f5 (rdy_pre hr 5 (by kernel_rfl))
    refine wa hk rfl rfl ?_
    refine ev_act hk rfl rfl (r_ldR44 hk rfl (gc_old hx h2) hx.2) fun a hk => ?_
    have new : D x.old = D x.old := rfl
    exact ⟨_, _, _, _, _, _, _, _, _, _, _, hk.sub _ ⟨rfl, rfl, rfl, rfl, rfl, rfl, rfl, rfl, rfl, rfl, rfl, rfl, rfl, rfl, trivial⟩, hB, h2, h3, h4, fun h => f0 h, fun h => f1 h, fun h => f2 h, fun h => f3 h, fun h => f4 h, fun h => f5 h, fun _ => new, fun h => f7 h, fun h => f8 h, fun h => f9 h, fun h => f10 h⟩
  · intro _ d a w hr hJ
    obtain ⟨v0, v1, v2, v3, v4, v5, v6, v7, v8, v9, v10, hk, hB, h2, h3, h4, f0, f1, f2, f3, f4, f5, f6, f7, f8, f9, f10⟩ := hJ
    refine wa hk rfl rfl ?_
    refine ev_act hk rfl rfl (e_field (off := 32) hk rfl Tryd.underlying147 rfl rfl nz4 _) fun a hk => ?_
    have new : (Value.pointer (some ⟨b2, 0 + 32, none⟩)) = .pointer (some ⟨b2, 0 + 32, none⟩) := rfl
    exact ⟨_, _, _, _, _, _, _, _, _, _, _, hk.sub _ ⟨rfl, rfl, rfl, rfl, rfl, rfl, rfl, rfl, rfl, rfl, rfl, rfl, rfl, rfl, trivial⟩, hB, h2, h3, h4, fun h => f0 h, fun h => f1 h, fun h => f2 h, fun h => f3 h, fun h => f4 h, fun h => f5 h, fun h => f6 h, fun _ => new, fun h => f8 h, fun h => f9 h, fun h => f10 h⟩
  · intro _ d a w hr hJ
    obtain ⟨v0, v1, v2, v3, v4, v5, v6, v7, v8, v9, v10, hk, hB, h2, h3, h4, f0, f1, f2, f3, f4, f5, f6, f7, f8, f9, f10⟩ := hJ
    obtain rfl := f7 (rdy_pre hr 7 (by kernel_rfl))
    refine wa hk rfl rfl ?_
    refine ev_act hk rfl rfl (r_load hk rfl Tryd.underlying4 rfl h2 (gc_has x hx)) fun a hk => ?_
    have new : Value.bool x.has = Value.bool x.has := rfl
    exact ⟨_, _, _, _, _, _, _, _, _, _, _, hk.sub _ ⟨rfl, rfl, rfl, rfl, rfl, rfl, rfl, rfl, rfl, rfl, rfl, rfl, rfl, rfl, trivial⟩, hB, h2, h3, h4, fun h => f0 h, fun h => f1 h, fun h => f2 h, fun h => f3 h, fun h => f4 h, fun h => f5 h, fun h => f6 h, fun h => f7 h, fun _ => new, fun h => f9 h, fun h => f10 h⟩
  · intro _ d a w hr hJ
    obtain ⟨v0, v1, v2, v3, v4, v5, v6, v7, v8, v9, v10, hk, hB, h2, h3, h4, f0, f1, f2, f3, f4, f5, f6, f7, f8, f9, f10⟩ := hJ
    obtain rfl := f4 (rdy_pre hr 4 (by kernel_rfl))
    obtain rfl := f6 (rdy_pre hr 6 (by kernel_rfl))
    obtain rfl := f8 (rdy_pre hr 8 (by kernel_rfl))
    refine wa hk rfl rfl ?_
    refine ev_act hk rfl rfl (e_buildS (cells := gc ⟨nodeS x.root y.root, x.old, x.has⟩) (pl := #[(0, 16), (16, 16), (32, 1)]) hk rfl zr147 Tryd.underlying147 (fun w => by kernel_rfl) (fill147 _ _ _ (by simp) hx.2) _) fun a hk => ?_
    have new : Value.agg (gc ⟨nodeS x.root y.root, x.old, x.has⟩) = Value.agg (gc ⟨nodeS x.root y.root, x.old, x.has⟩) := rfl
    exact ⟨_, _, _, _, _, _, _, _, _, _, _, hk.sub _ ⟨rfl, rfl, rfl, rfl, rfl, rfl, rfl, rfl, rfl, rfl, rfl, rfl, rfl, rfl, trivial⟩, hB, h2, h3, h4, fun h => f0 h, fun h => f1 h, fun h => f2 h, fun h => f3 h, fun h => f4 h, fun h => f5 h, fun h => f6 h, fun h => f7 h, fun h => f8 h, fun _ => new, fun h => f10 h⟩
  · intro _ d a w hr hJ
    obtain ⟨v0, v1, v2, v3, v4, v5, v6, v7, v8, v9, v10, hk, hB, h2, h3, h4, f0, f1, f2, f3, f4, f5, f6, f7, f8, f9, f10⟩ := hJ
    refine wa hk rfl rfl ?_
    refine a_alloc hk rfl zr147 fun a w' b5 hk G5 => ?_
    have hE := G5.ext
    have new : ∃ b, (Value.pointer (some ⟨b5, 0, none⟩)) = .pointer (some ⟨b, 0, none⟩) ∧ w0.heap.size ≤ b ∧ b ≠ b2 ∧ b ≠ b3 ∧ b ≠ b4 ∧ w'.heap[b]? = some (.cells (Value.agg (List.replicate 32 (Value.int .u8 0) ++ [Value.bool false]).toArray).cells 147 (0, 0)) := ⟨_, rfl, Nat.le_trans hB.size G5.ge, Ne.symm (G5.ne h2), Ne.symm (G5.ne h3), Ne.symm (G5.ne h4), G5.at_⟩
    exact ⟨_, _, _, _, _, _, _, _, _, _, _, hk.sub _ ⟨rfl, rfl, rfl, rfl, rfl, rfl, rfl, rfl, rfl, rfl, rfl, rfl, rfl, rfl, trivial⟩, ext_trans hB hE, ext_at hE h2, ext_at hE h3, ext_at hE h4, fun h => f0 h, fun h => f1 h, fun h => f2 h, fun h => f3 h, fun h => f4 h, fun h => f5 h, fun h => f6 h, fun h => f7 h, fun h => f8 h, fun h => f9 h, fun _ => new⟩
  · intro h; cases h

end Go.Proofs.YtidfbboalbchiaaDoor
