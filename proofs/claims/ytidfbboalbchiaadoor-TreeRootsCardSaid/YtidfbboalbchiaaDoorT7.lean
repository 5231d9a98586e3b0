/- Part 7 of the texts that a claim's last texts stand on: A28, A29, A30. Conditions: those that each theorem names. -/
import Derived.Test.YtidfbboalbchiaaDoorT6
namespace Go.Proofs.YtidfbboalbchiaaDoor
open Go Go.RowKit

theorem stops_len (st : Nat → Nat → Bool) : ∀ a b, a < b → (stopsS st a b).length ≤ b - a := by
  apply walk_ind
  intro a b hab ih
  cases hs : st a b with
  | true => rw [stops_stop hs]; simp; omega
  | false =>
    by_cases h2 : 2 ≤ b - a
    · have h3 := hlf_lt h2
      obtain ⟨i1, i2⟩ := ih h2
      rw [stops_more hs h2, List.length_append]; omega
    · rw [stops_one hs (by omega)]; simp
/-- The roots of some nodes. -/
def rootsOf (xs : List (List UInt8)) (l : List (Nat × Nat)) : List (List UInt8) := l.map fun p => rootI xs p.1 p.2
theorem rootsOf_len (xs : List (List UInt8)) (l : List (Nat × Nat)) : (rootsOf xs l).length = l.length := by simp [rootsOf]
theorem rootsOf_16 (xs : List (List UInt8)) (l : List (Nat × Nat)) : ∀ d ∈ rootsOf xs l, d.length = 16 := by
  intro d hd
  simp only [rootsOf, List.mem_map] at hd
  obtain ⟨p, _, rfl⟩ := hd
  simp
theorem rootsOf_append (xs : List (List UInt8)) (l r : List (Nat × Nat)) : rootsOf xs (l ++ r) = rootsOf xs l ++ rootsOf xs r := by simp [rootsOf]
/-- What Prove answers. -/
structure PR where
  n : Int
  fr : Int
  nodes : List (List UInt8)
  err : Int
def provR (xs : List (List UInt8)) (f t : Int) : PR := if f < 0 ∨ f ≥ t ∨ t > xs.length then ⟨0, 0, [], 1⟩ else ⟨xs.length, f, rootsOf xs (restS f.toNat t.toNat 0 xs.length), 0⟩
def PRes (r : PR) (e : Ending) (w' : World) : Prop := ∃ ad c, e = .returned (.tuple #[.agg #[I r.n, I r.fr, .slice ad r.nodes.length c], I r.err]) ∧ Rdg w' ad r.nodes.length c r.nodes ∧ ∀ b o, ad = some ⟨b, o, none⟩ → b < w'.heap.size
/-- What Longer answers. -/
def longR (xs : List (List UInt8)) (n : Int) : List (List UInt8) × Int := if n < 0 ∨ n > xs.length then ([], 1) else if xs.length = 0 then ([ofD 2 []], 0) else (rootsOf xs (stepsS n.toNat 0 xs.length), 0)
def LRes (r : List (List UInt8) × Int) (e : Ending) (w' : World) : Prop := ∃ ad c, e = .returned (.tuple #[.slice ad r.1.length c, I r.2]) ∧ Rdg w' ad r.1.length c r.1 ∧ ∀ b o, ad = some ⟨b, o, none⟩ → b < w'.heap.size
/-- A walk that gathers roots. -/
theorem gather (bp : Nat) (mk : Value → Array Value) (tb : TypeId) (hmk : ∀ v v', mk v = mk v' → v = v') (xs : List (List UInt8)) (hL : Lv xs) (h0 : 0 < xs.length) (st stop : Nat → Nat → Bool) (hst : ∀ a b, a < b → st a b = true → stop a b = true) (hin : ∀ a b, a < b → stop a b = true → st a b = false → stopsS st a b = []) (hone : ∀ a b, a < b → stop a b = false → 2 ≤ b - a)
    (w0 wB : World) (hB : Ext w0 wB) (hg : w0.heap.size ≤ bp) (hbp : wB.heap[bp]? = some (.cells (mk (.slice none 0 0)) tb (0, 0))) (f₁ f₂ : FuncId) (cap : List Value) (hok1 : callOk Tryd.prog f₁ = true) (hok2 : callOk Tryd.prog f₂ = true)
    (h2 : ∀ w, Calls Tryd.prog f₂ #[.agg #[], .agg #[]] w fun e w' => e = .returned (.agg #[]) ∧ Ext w w')
    (h1 : ∀ a b s w, a < b → b ≤ xs.length → s.length ≤ a → Col bp wB mk tb s w → Ext w0 w → (∀ k, k < wB.heap.size → k ≠ bp → ¬ MutC bp mk tb w k ∧ w.heap[k]? = wB.heap[k]?) → Calls Tryd.prog f₁ ([] ++ [I (a : Nat), I (b : Nat)] ++ cap).toArray w fun e w' => ∃ s', e = .returned (.tuple #[.agg #[], .bool (stop a b)]) ∧ Col bp wB mk tb s' w' ∧ Fra (MutC bp mk tb) w w' ∧ s' = s ++ (if st a b then [rootI xs a b] else [])) :
    Calls Tryd.prog 97 #[I (0 : Nat), I (xs.length : Nat), .func (.func f₁) #[] cap.toArray, .func (.func f₂) #[] #[]] wB fun e w' => e = .returned (.agg #[]) ∧ Col bp wB mk tb (rootsOf xs (stopsS st 0 xs.length)) w' ∧ Ext w0 w' := by
  have hlt := heap_lt hbp
  have hL1 := hL.1
  have hExt : ∀ s w, Col bp wB mk tb s w → Ext w0 w := fun s w h => ⟨h.os.trans hB.os, h.tape.trans hB.tape, h.output.trans hB.output, Nat.le_trans hB.size h.size, fun k hk => (h.other k (Nat.lt_of_lt_of_le hk hB.size) (by omega)).trans (hB.block k hk)⟩
  have hMut : ∀ s w, Col bp wB mk tb s w → ∀ k, k < wB.heap.size → k ≠ bp → ¬ MutC bp mk tb w k ∧ w.heap[k]? = wB.heap[k]? := fun s w h k hk hne => ⟨fun hm => by
    rcases hm with rfl | ⟨v, h1, h2⟩
    · exact hne rfl
    · obtain ⟨v', h3, h4⟩ := h.cell
      rw [h1] at h3
      obtain rfl := hmk v v' (by simpa using h3)
      have := (h4.lt k h2).1
      omega, h.other k hk hne⟩
  have hJ0 : Col bp wB mk tb [] wB := ⟨rfl, rfl, rfl, Nat.le_refl _, fun _ _ _ => rfl, hlt, ⟨_, hbp, own_nil⟩, by simp⟩
  refine (c97 (S := List (List UInt8)) (X := Unit) (fun _ => #[]) (fun _ => True) (fun _ _ => ⟨rfl, by simp⟩) (fun _ _ => ()) (MutC bp mk tb) (fun s w => Col bp wB mk tb s w) (fun a b => stop a b = false) (fun a b s _ s' => a < b → s' = s ++ rootsOf xs (stopsS st a b)) (fun a b s => a < b ∧ s.length ≤ a) wB.heap.size xs.length (by omega) f₁ f₂ cap [] hok1 hok2
    (fun s w w' h hE => h.ext hE) (fun s w w' b o h hb hm hW => h.wrote hb hm hW) (fun s w k h hk => h.mut0 hmk k hk)
    (fun a b s h h2 _ => ⟨by have := hlf_pos (b - a); omega, h.2⟩) (fun a b s _ s1 h h2 _ hs => ?_)
    (fun a b s w hab hbl hP hJ _ => (h1 a b s w hab hbl hP.2 hJ (hExt s w hJ) (hMut s w hJ)).mono fun e w' ⟨s', he, hJ', hF, hs'⟩ => ⟨(), _, s', he, trivial, hJ', hF, fun hb _ => ?_, fun hb => ?_⟩)
    (fun _ _ s w _ _ hJ _ => (h2 w).mono fun e w' ⟨he, hE⟩ => ⟨he, trivial, (hJ.ext hE).1, Fra.ext hE (hJ.ext hE).2⟩)
    (fun a b s _ s1 _ s2 hG h2 hx hy hab => ?_) _ 0 xs.length [] wB rfl h0 (Nat.le_refl _) ⟨h0, Nat.le_refl _⟩ hJ0 (Nat.le_refl _)).mono fun e w' ⟨x, s', he, _, hJ', _, hs'⟩ => ?_
  · have h3 := hlf_lt h2
    have h4 := hlf_pos (b - a)
    have h5 := hs (by omega)
    refine ⟨by omega, ?_⟩
    rw [h5, List.length_append, rootsOf_len]
    have := stops_len st a (a + hlf (b - a)) (by omega)
    omega
  · cases hs : st a b with
    | true => rw [stops_stop hs]; rw [hs, if_pos rfl] at hs'; exact hs'
    | false => rw [hin a b hab hb hs]; rw [hs] at hs'; simpa [rootsOf] using hs'
  · have hs : st a b = false := by
      cases hs : st a b with
      | true => rw [hst a b hab hs] at hb; cases hb
      | false => rfl
    rw [hs] at hs'
    exact ⟨by simpa using hs', hone a b hab hb, hb⟩
  · have h3 := hlf_lt h2
    have h4 := hlf_pos (b - a)
    have hs : st a b = false := by
      cases hs : st a b with
      | true => rw [hst a b hab hs] at hG; cases hG
      | false => rfl
    rw [hy (by omega), hx (by omega), stops_more hs h2, rootsOf_append, List.append_assoc]
  · have h5 := hs' h0
    rw [List.nil_append] at h5
    subst h5
    exact ⟨he, hJ', hExt _ _ hJ'⟩
/-- A row of one digest. -/
theorem rdg_lit {w : World} {b : Nat} {t : TypeId} {fr : Nat × Nat} {l : List UInt8} (h : w.heap[b]? = some (.cells (l.map B).toArray t fr)) (hl : l.length = 16) : Rdg w (some ⟨b, 0, none⟩) 1 1 [l] :=
  ⟨Rd.of_block h (by simp [digs16, hl]) (Nat.le_refl _) fun i hi => by rw [Nat.zero_add]; simp [digs16], by simpa using hl⟩

theorem w97P (xs : List (List UInt8)) (hL : Lv xs) (h0 : 0 < xs.length) (ad : Option Addr) (c f t b3 b4 b5 b8 : Nat) (w0 w : World) (hR : Rs w0 ad xs.length c xs) (hG : GH w0) (hB : Ext w0 w) (hg_b8 : w0.heap.size ≤ b8) (h_b8 : w.heap[b8]? = some (.cells (mkP xs.length f (.slice none 0 0)) 71 (0, 0)))
    (h_b3 : w.heap[b3]? = some (.cells #[.slice ad xs.length c] 27 (0, 0))) (h_b4 : w.heap[b4]? = some (.cells #[I f] 3 (0, 0))) (h_b5 : w.heap[b5]? = some (.cells #[I t] 3 (0, 0))) (n3 : b3 ≠ b8) (n4 : b4 ≠ b8) (n5 : b5 ≠ b8) :
    Calls Tryd.prog 97 #[I (0 : Nat), I (xs.length : Nat), .func (.func 98) #[] #[.pointer (some ⟨b4, 0, none⟩), .pointer (some ⟨b5, 0, none⟩), .pointer (some ⟨b8, 0, none⟩), .pointer (some ⟨b3, 0, none⟩)], .func (.func 99) #[] #[]] w fun e w' => e = .returned (.agg #[]) ∧ Col b8 w (mkP xs.length f) 71 (rootsOf xs (restS f t 0 xs.length)) w' ∧ Ext w0 w' := by
  refine gather b8 (mkP xs.length f) 71 (mkP_inj _ _) xs hL h0 (outI f t) (fun a b => decide (outI f t a b = true ∨ (f ≤ a ∧ b ≤ t))) (fun a b _ h => decide_eq_true (.inl h)) (fun a b hab h hn => ?_) (fun a b hab h => ?_) w0 w hB hg_b8 h_b8 98 99 [.pointer (some ⟨b4, 0, none⟩), .pointer (some ⟨b5, 0, none⟩), .pointer (some ⟨b8, 0, none⟩), .pointer (some ⟨b3, 0, none⟩)] ok98 ok99 (fun w => c99 w)
    (fun a b s w1 hab hbl hs hC hE hM => c98 xs.length f xs hL ad c b8 b3 b4 b5 w s a b f t w1 hC hs (fun w2 h2 => Rd.ext hR ?_) (fun w2 h2 => hG.ext ?_) ((hM b3 (heap_lt h_b3) n3).2.trans h_b3) (hM b3 (heap_lt h_b3) n3).1 ((hM b4 (heap_lt h_b4) n4).2.trans h_b4) (hM b4 (heap_lt h_b4) n4).1 ((hM b5 (heap_lt h_b5) n5).2.trans h_b5) (hM b5 (heap_lt h_b5) n5).1 hab hbl)
  · have h := of_decide_eq_true h
    rw [hn] at h
    simp at h
    exact rest_in f t a b hab h.1 h.2
  · have h := of_decide_eq_false h
    unfold outI at h; simp at h; omega
  · exact ⟨h2.os.trans hB.os, h2.tape.trans hB.tape, h2.output.trans hB.output, Nat.le_trans hB.size h2.size, fun k hk => (h2.other k (Nat.lt_of_lt_of_le hk hB.size) (by omega)).trans (hB.block k hk)⟩
  · exact ⟨h2.os.trans hB.os, h2.tape.trans hB.tape, h2.output.trans hB.output, Nat.le_trans hB.size h2.size, fun k hk => (h2.other k (Nat.lt_of_lt_of_le hk hB.size) (by omega)).trans (hB.block k hk)⟩
theorem w97L (xs : List (List UInt8)) (hL : Lv xs) (h0 : 0 < xs.length) (ad : Option Addr) (c n b2 b3 b6 : Nat) (w0 w : World) (hR : Rs w0 ad xs.length c xs) (hG : GH w0) (hB : Ext w0 w) (hg_b6 : w0.heap.size ≤ b6) (h_b6 : w.heap[b6]? = some (.cells (mkL (.slice none 0 0)) 69 (0, 0)))
    (h_b2 : w.heap[b2]? = some (.cells #[.slice ad xs.length c] 27 (0, 0))) (h_b3 : w.heap[b3]? = some (.cells #[I n] 3 (0, 0))) (n2 : b2 ≠ b6) (n3 : b3 ≠ b6) :
    Calls Tryd.prog 97 #[I (0 : Nat), I (xs.length : Nat), .func (.func 102) #[] #[.pointer (some ⟨b3, 0, none⟩), .pointer (some ⟨b6, 0, none⟩), .pointer (some ⟨b2, 0, none⟩)], .func (.func 103) #[] #[]] w fun e w' => e = .returned (.agg #[]) ∧ Col b6 w mkL 69 (rootsOf xs (stepsS n 0 xs.length)) w' ∧ Ext w0 w' := by
  refine gather b6 mkL 69 mkL_inj xs hL h0 (farB n) (farB n) (fun a b _ h => h) (fun a b hab h hn => by rw [h] at hn; cases hn) (fun a b hab h => ?_) w0 w hB hg_b6 h_b6 102 103 [.pointer (some ⟨b3, 0, none⟩), .pointer (some ⟨b6, 0, none⟩), .pointer (some ⟨b2, 0, none⟩)] ok102 ok103 (fun w => c103 w)
    (fun a b s w1 hab hbl hs hC hE hM => c102 xs hL ad c b6 b2 b3 w s a b n w1 hC hs (fun w2 h2 => Rd.ext hR ?_) (fun w2 h2 => hG.ext ?_) ((hM b2 (heap_lt h_b2) n2).2.trans h_b2) (hM b2 (heap_lt h_b2) n2).1 ((hM b3 (heap_lt h_b3) n3).2.trans h_b3) (hM b3 (heap_lt h_b3) n3).1 hab hbl)
  · unfold farB at h; simp at h; omega
  · exact ⟨h2.os.trans hB.os, h2.tape.trans hB.tape, h2.output.trans hB.output, Nat.le_trans hB.size h2.size, fun k hk => (h2.other k (Nat.lt_of_lt_of_le hk hB.size) (by omega)).trans (hB.block k hk)⟩
  · exact ⟨h2.os.trans hB.os, h2.tape.trans hB.tape, h2.output.trans hB.output, Nat.le_trans hB.size h2.size, fun k hk => (h2.other k (Nat.lt_of_lt_of_le hk hB.size) (by omega)).trans (hB.block k hk)⟩

set_option maxRecDepth 4000 in
set_option maxHeartbeats 1000000 in
theorem c48 (xs : List (List UInt8)) (hL : Lv xs) (ad : Option Addr) (c : Nat) (f₀ t₀ : Int) (w0 : World) (hR : Rs w0 ad xs.length c xs) (hG : GH w0) :
    Calls Tryd.prog 48 #[.slice ad xs.length c, I f₀, I t₀] w0 fun e w' => PRes (provR xs f₀ t₀) e w' ∧ Ext w0 w' := by
  have hL1 := hL.1
  rcases (by omega : f₀ < 0 ∨ (0 ≤ f₀ ∧ f₀ ≥ t₀) ∨ (0 ≤ f₀ ∧ f₀ < t₀ ∧ t₀ > xs.length) ∨ (0 ≤ f₀ ∧ f₀ < t₀ ∧ t₀ ≤ xs.length)) with hc | hc | hc | hc
  · refine start 32 Tryd.func48 rfl rfl rfl fun a hk => ?_
    have hB : Ext w0 w0 := Below.refl _ _
    refine wp_seq_k fun K1 hK1 => ?_
    refine wp_region_lit ?_
    refine la hk rfl (a_box hk rfl rfl fun a w b3 hk G => ?_)
    have hg_b3 : w0.heap.size ≤ b3 := Nat.le_trans hB.size G.ge
    have hB := ext_trans hB G.ext
    have h_b3 := G.at_
    clear G
    refine la hk rfl (a_box hk rfl rfl fun a w b4 hk G => ?_)
    have n_b3_b4 : b3 ≠ b4 := G.ne h_b3
    have hg_b4 : w0.heap.size ≤ b4 := Nat.le_trans hB.size G.ge
    have h_b3 := ext_at G.ext h_b3
    have hB := ext_trans hB G.ext
    have h_b4 := G.at_
    clear G
    refine la hk rfl (a_box hk rfl rfl fun a w b5 hk G => ?_)
    have n_b3_b5 : b3 ≠ b5 := G.ne h_b3
    have n_b4_b5 : b4 ≠ b5 := G.ne h_b4
    have hg_b5 : w0.heap.size ≤ b5 := Nat.le_trans hB.size G.ge
    have h_b3 := ext_at G.ext h_b3
    have h_b4 := ext_at G.ext h_b4
    have hB := ext_trans hB G.ext
    have h_b5 := G.at_
    clear G
    refine la hk rfl (a_alloc hk rfl zr71 fun a w b6 hk G => ?_)
    have n_b3_b6 : b3 ≠ b6 := G.ne h_b3
    have n_b4_b6 : b4 ≠ b6 := G.ne h_b4
    have n_b5_b6 : b5 ≠ b6 := G.ne h_b5
    have hg_b6 : w0.heap.size ≤ b6 := Nat.le_trans hB.size G.ge
    have h_b3 := ext_at G.ext h_b3
    have h_b4 := ext_at G.ext h_b4
    have h_b5 := ext_at G.ext h_b5
    have hB := ext_trans hB G.ext
    have h_b6 := G.at_
    clear G
    refine ls hk rfl rfl rfl (e_assign hk rfl _) fun a hk => ?_
    refine lnil (hK1 _ _ ?_)
    refine wp_seq_k fun K2 hK2 => ?_
    refine wp_seq_k fun K3 hK3 => ?_
    refine wp_region_lit ?_
    refine ls hk rfl rfl rfl (r_ld1 hk rfl Tryd.underlying3 rfl h_b4) fun a hk => ?_
    refine ls hk rfl rfl rfl (e_lss (b := true) hk rfl rfl (decide_eq_true (by omega)) _) fun a hk => ?_
    refine ls hk rfl rfl rfl (e_move hk rfl _) fun a hk => ?_
    refine lno hk rfl rfl rfl fun a hk => ?_
    refine lno hk rfl rfl rfl fun a hk => ?_
    refine lno hk rfl rfl rfl fun a hk => ?_
    refine ls hk rfl rfl rfl (e_pickT hk rfl rfl _) fun a hk => ?_
    refine ls hk rfl rfl rfl (e_move hk rfl _) fun a hk => ?_
    refine lno hk rfl rfl rfl fun a hk => ?_
    refine lno hk rfl rfl rfl fun a hk => ?_
    refine lno hk rfl rfl rfl fun a hk => ?_
    refine lno hk rfl rfl rfl fun a hk => ?_
    refine ls hk rfl rfl rfl (e_pickT hk rfl rfl _) fun a hk => ?_
    refine lnil (hK3 _ _ ?_)
    refine cdT hk rfl ?_
    refine wp_seq_k fun K4 hK4 => ?_
    refine wp_region_lit ?_
    refine ls hk rfl rfl rfl (e_buildS (cells := #[I 0, I 0, .slice none 0 0]) (pl := #[(0, 1), (1, 1), (2, 1)]) hk rfl zr71 Tryd.underlying71 (fun w => by kernel_rfl) rfl _) fun a hk => ?_
    refine la hk rfl (a_storeB (cs' := #[I 0, I 0, .slice none 0 0]) hk rfl rfl (by simp [Value.oneCell']) sz71 h_b6 rfl fun a w hk W => ?_)
    have h_b3 := W.keep n_b3_b6 h_b3
    have h_b4 := W.keep n_b4_b6 h_b4
    have h_b5 := W.keep n_b5_b6 h_b5
    have hB := W.below hB hg_b6
    have h_b6 := W.at_
    clear W
    refine ls hk rfl rfl rfl (e_assign hk rfl _) fun a hk => ?_
    refine lnil (hK4 _ _ ?_)
    refine wp_ret ?_
    simp only [then_ret]
    exact retA1 hk rfl rfl rfl h_b6 Tryd.underlying71 rfl sz71 ⟨by rw [provR, if_pos (by omega)]; exact ⟨none, 0, rfl, rdg_nil, fun b o e => by cases e⟩, hB⟩
  · refine start 32 Tryd.func48 rfl rfl rfl fun a hk => ?_
    have hB : Ext w0 w0 := Below.refl _ _
    refine wp_seq_k fun K1 hK1 => ?_
    refine wp_region_lit ?_
    refine la hk rfl (a_box hk rfl rfl fun a w b3 hk G => ?_)
    have hg_b3 : w0.heap.size ≤ b3 := Nat.le_trans hB.size G.ge
    have hB := ext_trans hB G.ext
    have h_b3 := G.at_
    clear G
    refine la hk rfl (a_box hk rfl rfl fun a w b4 hk G => ?_)
    have n_b3_b4 : b3 ≠ b4 := G.ne h_b3
    have hg_b4 : w0.heap.size ≤ b4 := Nat.le_trans hB.size G.ge
    have h_b3 := ext_at G.ext h_b3
    have hB := ext_trans hB G.ext
    have h_b4 := G.at_
    clear G
    refine la hk rfl (a_box hk rfl rfl fun a w b5 hk G => ?_)
    have n_b3_b5 : b3 ≠ b5 := G.ne h_b3
    have n_b4_b5 : b4 ≠ b5 := G.ne h_b4
    have hg_b5 : w0.heap.size ≤ b5 := Nat.le_trans hB.size G.ge
    have h_b3 := ext_at G.ext h_b3
    have h_b4 := ext_at G.ext h_b4
    have hB := ext_trans hB G.ext
    have h_b5 := G.at_
    clear G
    refine la hk rfl (a_alloc hk rfl zr71 fun a w b6 hk G => ?_)
    have n_b3_b6 : b3 ≠ b6 := G.ne h_b3
    have n_b4_b6 : b4 ≠ b6 := G.ne h_b4
    have n_b5_b6 : b5 ≠ b6 := G.ne h_b5
    have hg_b6 : w0.heap.size ≤ b6 := Nat.le_trans hB.size G.ge
    have h_b3 := ext_at G.ext h_b3
    have h_b4 := ext_at G.ext h_b4
    have h_b5 := ext_at G.ext h_b5
    have hB := ext_trans hB G.ext
    have h_b6 := G.at_
    clear G
    refine ls hk rfl rfl rfl (e_assign hk rfl _) fun a hk => ?_
    refine lnil (hK1 _ _ ?_)
    refine wp_seq_k fun K2 hK2 => ?_
    refine wp_seq_k fun K3 hK3 => ?_
    refine wp_region_lit ?_
    refine ls hk rfl rfl rfl (r_ld1 hk rfl Tryd.underlying3 rfl h_b4) fun a hk => ?_
    refine ls hk rfl rfl rfl (e_lss (b := false) hk rfl rfl (decide_eq_false (by omega)) _) fun a hk => ?_
    refine ls hk rfl rfl rfl (e_move hk rfl _) fun a hk => ?_
    refine ls hk rfl rfl rfl (r_ld1 hk rfl Tryd.underlying3 rfl h_b4) fun a hk => ?_
    refine ls hk rfl rfl rfl (r_ld1 hk rfl Tryd.underlying3 rfl h_b5) fun a hk => ?_
    refine ls hk rfl rfl rfl (e_geq (b := true) hk rfl rfl (decide_eq_true (by omega)) _) fun a hk => ?_
    refine ls hk rfl rfl rfl (e_pickF hk rfl rfl _) fun a hk => ?_
    refine ls hk rfl rfl rfl (e_move hk rfl _) fun a hk => ?_
    refine lno hk rfl rfl rfl fun a hk => ?_
    refine lno hk rfl rfl rfl fun a hk => ?_
    refine lno hk rfl rfl rfl fun a hk => ?_
    refine lno hk rfl rfl rfl fun a hk => ?_
    refine ls hk rfl rfl rfl (e_pickT hk rfl rfl _) fun a hk => ?_
    refine lnil (hK3 _ _ ?_)
    refine cdT hk rfl ?_
    refine wp_seq_k fun K4 hK4 => ?_
    refine wp_region_lit ?_
    refine ls hk rfl rfl rfl (e_buildS (cells := #[I 0, I 0, .slice none 0 0]) (pl := #[(0, 1), (1, 1), (2, 1)]) hk rfl zr71 Tryd.underlying71 (fun w => by kernel_rfl) rfl _) fun a hk => ?_
    refine la hk rfl (a_storeB (cs' := #[I 0, I 0, .slice none 0 0]) hk rfl rfl (by simp [Value.oneCell']) sz71 h_b6 rfl fun a w hk W => ?_)
    have h_b3 := W.keep n_b3_b6 h_b3
    have h_b4 := W.keep n_b4_b6 h_b4
    have h_b5 := W.keep n_b5_b6 h_b5
    have hB := W.below hB hg_b6
    have h_b6 := W.at_
    clear W
    refine ls hk rfl rfl rfl (e_assign hk rfl _) fun a hk => ?_
    refine lnil (hK4 _ _ ?_)
    refine wp_ret ?_
    simp only [then_ret]
    exact retA1 hk rfl rfl rfl h_b6 Tryd.underlying71 rfl sz71 ⟨by rw [provR, if_pos (by omega)]; exact ⟨none, 0, rfl, rdg_nil, fun b o e => by cases e⟩, hB⟩
  · refine start 32 Tryd.func48 rfl rfl rfl fun a hk => ?_
    have hB : Ext w0 w0 := Below.refl _ _
    refine wp_seq_k fun K1 hK1 => ?_
    refine wp_region_lit ?_
    refine la hk rfl (a_box hk rfl rfl fun a w b3 hk G => ?_)
    have hg_b3 : w0.heap.size ≤ b3 := Nat.le_trans hB.size G.ge
    have hB := ext_trans hB G.ext
    have h_b3 := G.at_
    clear G
    refine la hk rfl (a_box hk rfl rfl fun a w b4 hk G => ?_)
    have n_b3_b4 : b3 ≠ b4 := G.ne h_b3
    have hg_b4 : w0.heap.size ≤ b4 := Nat.le_trans hB.size G.ge
    have h_b3 := ext_at G.ext h_b3
    have hB := ext_trans hB G.ext
    have h_b4 := G.at_
    clear G
    refine la hk rfl (a_box hk rfl rfl fun a w b5 hk G => ?_)
    have n_b3_b5 : b3 ≠ b5 := G.ne h_b3
    have n_b4_b5 : b4 ≠ b5 := G.ne h_b4
    have hg_b5 : w0.heap.size ≤ b5 := Nat.le_trans hB.size G.ge
    have h_b3 := ext_at G.ext h_b3
    have h_b4 := ext_at G.ext h_b4
    have hB := ext_trans hB G.ext
    have h_b5 := G.at_
    clear G
    refine la hk rfl (a_alloc hk rfl zr71 fun a w b6 hk G => ?_)
    have n_b3_b6 : b3 ≠ b6 := G.ne h_b3
    have n_b4_b6 : b4 ≠ b6 := G.ne h_b4
    have n_b5_b6 : b5 ≠ b6 := G.ne h_b5
    have hg_b6 : w0.heap.size ≤ b6 := Nat.le_trans hB.size G.ge
    have h_b3 := ext_at G.ext h_b3
    have h_b4 := ext_at G.ext h_b4
    have h_b5 := ext_at G.ext h_b5
    have hB := ext_trans hB G.ext
    have h_b6 := G.at_
    clear G
    refine ls hk rfl rfl rfl (e_assign hk rfl _) fun a hk => ?_
    refine lnil (hK1 _ _ ?_)
    refine wp_seq_k fun K2 hK2 => ?_
    refine wp_seq_k fun K3 hK3 => ?_
    refine wp_region_lit ?_
    refine ls hk rfl rfl rfl (r_ld1 hk rfl Tryd.underlying3 rfl h_b4) fun a hk => ?_
    refine ls hk rfl rfl rfl (e_lss (b := false) hk rfl rfl (decide_eq_false (by omega)) _) fun a hk => ?_
    refine ls hk rfl rfl rfl (e_move hk rfl _) fun a hk => ?_
    refine ls hk rfl rfl rfl (r_ld1 hk rfl Tryd.underlying3 rfl h_b4) fun a hk => ?_
    refine ls hk rfl rfl rfl (r_ld1 hk rfl Tryd.underlying3 rfl h_b5) fun a hk => ?_
    refine ls hk rfl rfl rfl (e_geq (b := false) hk rfl rfl (decide_eq_false (by omega)) _) fun a hk => ?_
    refine ls hk rfl rfl rfl (e_pickF hk rfl rfl _) fun a hk => ?_
    refine ls hk rfl rfl rfl (e_move hk rfl _) fun a hk => ?_
    refine ls hk rfl rfl rfl (r_ld1 hk rfl Tryd.underlying3 rfl h_b5) fun a hk => ?_
    refine ls hk rfl rfl rfl (r_ld1 hk rfl Tryd.underlying27 rfl h_b3) fun a hk => ?_
    refine ls hk rfl rfl rfl (e_lenS hk rfl Tryd.underlying27 _) fun a hk => ?_
    refine ls hk rfl rfl rfl (e_gtr (b := true) hk rfl rfl (decide_eq_true (by omega)) _) fun a hk => ?_
    refine ls hk rfl rfl rfl (e_pickF hk rfl rfl _) fun a hk => ?_
    refine lnil (hK3 _ _ ?_)
    refine cdT hk rfl ?_
    refine wp_seq_k fun K4 hK4 => ?_
    refine wp_region_lit ?_
    refine ls hk rfl rfl rfl (e_buildS (cells := #[I 0, I 0, .slice none 0 0]) (pl := #[(0, 1), (1, 1), (2, 1)]) hk rfl zr71 Tryd.underlying71 (fun w => by kernel_rfl) rfl _) fun a hk => ?_
    refine la hk rfl (a_storeB (cs' := #[I 0, I 0, .slice none 0 0]) hk rfl rfl (by simp [Value.oneCell']) sz71 h_b6 rfl fun a w hk W => ?_)
    have h_b3 := W.keep n_b3_b6 h_b3
    have h_b4 := W.keep n_b4_b6 h_b4
    have h_b5 := W.keep n_b5_b6 h_b5
    have hB := W.below hB hg_b6
    have h_b6 := W.at_
    clear W
    refine ls hk rfl rfl rfl (e_assign hk rfl _) fun a hk => ?_
    refine lnil (hK4 _ _ ?_)
    refine wp_ret ?_
    simp only [then_ret]
    exact retA1 hk rfl rfl rfl h_b6 Tryd.underlying71 rfl sz71 ⟨by rw [provR, if_pos (by omega)]; exact ⟨none, 0, rfl, rdg_nil, fun b o e => by cases e⟩, hB⟩
  · obtain ⟨f, rfl⟩ : ∃ k : Nat, f₀ = k := ⟨f₀.toNat, by omega⟩
    obtain ⟨t, rfl⟩ : ∃ k : Nat, t₀ = k := ⟨t₀.toNat, by omega⟩
    refine start 32 Tryd.func48 rfl rfl rfl fun a hk => ?_
    have hB : Ext w0 w0 := Below.refl _ _
    refine wp_seq_k fun K1 hK1 => ?_
    refine wp_region_lit ?_
    refine la hk rfl (a_box hk rfl rfl fun a w b3 hk G => ?_)
    have hg_b3 : w0.heap.size ≤ b3 := Nat.le_trans hB.size G.ge
    have hB := ext_trans hB G.ext
    have h_b3 := G.at_
    clear G
    refine la hk rfl (a_box hk rfl rfl fun a w b4 hk G => ?_)
    have n_b3_b4 : b3 ≠ b4 := G.ne h_b3
    have hg_b4 : w0.heap.size ≤ b4 := Nat.le_trans hB.size G.ge
    have h_b3 := ext_at G.ext h_b3
    have hB := ext_trans hB G.ext
    have h_b4 := G.at_
    clear G
    refine la hk rfl (a_box hk rfl rfl fun a w b5 hk G => ?_)
    have n_b3_b5 : b3 ≠ b5 := G.ne h_b3
    have n_b4_b5 : b4 ≠ b5 := G.ne h_b4
    have hg_b5 : w0.heap.size ≤ b5 := Nat.le_trans hB.size G.ge
    have h_b3 := ext_at G.ext h_b3
    have h_b4 := ext_at G.ext h_b4
    have hB := ext_trans hB G.ext
    have h_b5 := G.at_
    clear G
    refine la hk rfl (a_alloc hk rfl zr71 fun a w b6 hk G => ?_)
    have n_b3_b6 : b3 ≠ b6 := G.ne h_b3
    have n_b4_b6 : b4 ≠ b6 := G.ne h_b4
    have n_b5_b6 : b5 ≠ b6 := G.ne h_b5
    have hg_b6 : w0.heap.size ≤ b6 := Nat.le_trans hB.size G.ge
    have h_b3 := ext_at G.ext h_b3
    have h_b4 := ext_at G.ext h_b4
    have h_b5 := ext_at G.ext h_b5
    have hB := ext_trans hB G.ext
    have h_b6 := G.at_
    clear G
    refine ls hk rfl rfl rfl (e_assign hk rfl _) fun a hk => ?_
    refine lnil (hK1 _ _ ?_)
    refine wp_seq_k fun K2 hK2 => ?_
    refine wp_seq_k fun K3 hK3 => ?_
    refine wp_region_lit ?_
    refine ls hk rfl rfl rfl (r_ld1 hk rfl Tryd.underlying3 rfl h_b4) fun a hk => ?_
    refine ls hk rfl rfl rfl (e_lss (b := false) hk rfl rfl (decide_eq_false (by omega)) _) fun a hk => ?_
    refine ls hk rfl rfl rfl (e_move hk rfl _) fun a hk => ?_
    refine ls hk rfl rfl rfl (r_ld1 hk rfl Tryd.underlying3 rfl h_b4) fun a hk => ?_
    refine ls hk rfl rfl rfl (r_ld1 hk rfl Tryd.underlying3 rfl h_b5) fun a hk => ?_
    refine ls hk rfl rfl rfl (e_geq (b := false) hk rfl rfl (decide_eq_false (by omega)) _) fun a hk => ?_
    refine ls hk rfl rfl rfl (e_pickF hk rfl rfl _) fun a hk => ?_
    refine ls hk rfl rfl rfl (e_move hk rfl _) fun a hk => ?_
    refine ls hk rfl rfl rfl (r_ld1 hk rfl Tryd.underlying3 rfl h_b5) fun a hk => ?_
    refine ls hk rfl rfl rfl (r_ld1 hk rfl Tryd.underlying27 rfl h_b3) fun a hk => ?_
    refine ls hk rfl rfl rfl (e_lenS hk rfl Tryd.underlying27 _) fun a hk => ?_
    refine ls hk rfl rfl rfl (e_gtr (b := false) hk rfl rfl (decide_eq_false (by omega)) _) fun a hk => ?_
    refine ls hk rfl rfl rfl (e_pickF hk rfl rfl _) fun a hk => ?_
    refine lnil (hK3 _ _ ?_)
    refine cdF hk rfl ?_
    refine wp_skip (hK2 _ _ ?_)
    refine wp_seq_k fun K4 hK4 => ?_
    refine wp_region_lit ?_
    refine ls hk rfl rfl rfl (r_ld1 hk rfl Tryd.underlying27 rfl h_b3) fun a hk => ?_
    refine ls hk rfl rfl rfl (e_lenS hk rfl Tryd.underlying27 _) fun a hk => ?_
    refine ls hk rfl rfl rfl (r_ld1 hk rfl Tryd.underlying3 rfl h_b4) fun a hk => ?_
    refine ls hk rfl rfl rfl (e_buildS (cells := #[I xs.length, I f, .slice none 0 0]) (pl := #[(0, 1), (1, 1), (2, 1)]) hk rfl zr71 Tryd.underlying71 (fun w => by kernel_rfl) rfl _) fun a hk => ?_
    refine la hk rfl (a_alloc hk rfl zr71 fun a w b8 hk G => ?_)
    have n_b3_b8 : b3 ≠ b8 := G.ne h_b3
    have n_b4_b8 : b4 ≠ b8 := G.ne h_b4
    have n_b5_b8 : b5 ≠ b8 := G.ne h_b5
    have n_b6_b8 : b6 ≠ b8 := G.ne h_b6
    have hg_b8 : w0.heap.size ≤ b8 := Nat.le_trans hB.size G.ge
    have h_b3 := ext_at G.ext h_b3
    have h_b4 := ext_at G.ext h_b4
    have h_b5 := ext_at G.ext h_b5
    have h_b6 := ext_at G.ext h_b6
    have hB := ext_trans hB G.ext
    have h_b8 := G.at_
    clear G
    refine la hk rfl (a_storeB (cs' := #[I xs.length, I f, .slice none 0 0]) hk rfl rfl (by simp [Value.oneCell']) sz71 h_b8 rfl fun a w hk W => ?_)
    have h_b3 := W.keep n_b3_b8 h_b3
    have h_b4 := W.keep n_b4_b8 h_b4
    have h_b5 := W.keep n_b5_b8 h_b5
    have h_b6 := W.keep n_b6_b8 h_b6
    have hB := W.below hB hg_b8
    have h_b8 := W.at_
    clear W
    refine lnil (hK4 _ _ ?_)
    refine wp_seq_k fun K5 hK5 => ?_
    have hlt6 := heap_lt h_b6
    refine wp_region_lit ?_
    refine ls hk rfl rfl rfl (r_ld1 hk rfl Tryd.underlying27 rfl h_b3) fun a hk => ?_
    refine ls hk rfl rfl rfl (e_lenS hk rfl Tryd.underlying27 _) fun a hk => ?_
    refine ls hk rfl rfl rfl (e_func hk rfl rfl _) fun a hk => ?_
    refine la hk rfl (a_call hk rfl rfl (c_fn hk rfl ok97) (w97P xs hL (by omega) ad c f t b3 b4 b5 b8 w0 w hR hG hB hg_b8 h_b8 h_b3 h_b4 h_b5 n_b3_b8 n_b4_b8 n_b5_b8) ?_)
    rintro e w ⟨rfl, hCol, hE⟩
    refine ⟨_, rfl, fun a hk => ?_⟩
    have h_b3 := (hCol.other _ (heap_lt h_b3) n_b3_b8).trans h_b3
    have h_b4 := (hCol.other _ (heap_lt h_b4) n_b4_b8).trans h_b4
    have h_b5 := (hCol.other _ (heap_lt h_b5) n_b5_b8).trans h_b5
    have h_b6 := (hCol.other _ (heap_lt h_b6) n_b6_b8).trans h_b6
    have hB := hE
    obtain ⟨v, h_p, hown⟩ := hCol.cell
    have hRg := rdg_own hown hCol.len
    clear hE
    refine lnil (hK5 _ _ ?_)
    refine wp_seq_k fun K6 hK6 => ?_
    have hob : v.ownBlock ≠ some b6 := fun e => by have := (hown.lt b6 e).1; have := hlt6; omega
    refine wp_region_lit ?_
    refine ls hk rfl rfl rfl (r_loadB hk rfl h_p Tryd.underlying71 rfl sz71) fun a hk => ?_
    refine la hk rfl (a_storeB (cs' := mkP xs.length f v) hk rfl rfl (by obtain ⟨_, _, e, _⟩ := hRg; rw [e]; simp [mkP, Value.oneCell']) sz71 h_b6 rfl fun a w hk W => ?_)
    have h_b3 := W.keep n_b3_b6 h_b3
    have h_b4 := W.keep n_b4_b6 h_b4
    have h_b5 := W.keep n_b5_b6 h_b5
    have hB := W.below hB hg_b6
    have hown2 := own_wrote hown W hob
    have h_b6 := W.at_
    clear W
    have hRg2 := rdg_own hown2 (rootsOf_16 xs _)
    clear hRg
    refine ls hk rfl rfl rfl (e_assign hk rfl _) fun a hk => ?_
    refine lnil (hK6 _ _ ?_)
    refine wp_ret ?_
    obtain ⟨ad1, c1, rfl, hRg⟩ := hRg2
    exact retA1 hk rfl rfl rfl h_b6 Tryd.underlying71 rfl sz71 ⟨by rw [provR, if_neg (by omega)]; exact ⟨ad1, c1, rfl, hRg, fun b o e => by subst e; exact (hown2.lt b rfl).2⟩, hB⟩

set_option maxRecDepth 4000 in
set_option maxHeartbeats 1000000 in
theorem c50 (xs : List (List UInt8)) (hL : Lv xs) (ad : Option Addr) (c : Nat) (n₀ : Int) (w0 : World) (hR : Rs w0 ad xs.length c xs) (hG : GH w0) :
    Calls Tryd.prog 50 #[.slice ad xs.length c, I n₀] w0 fun e w' => LRes (longR xs n₀) e w' ∧ Ext w0 w' := by
  have hL1 := hL.1
  rcases (by omega : n₀ < 0 ∨ (0 ≤ n₀ ∧ n₀ > xs.length) ∨ (0 ≤ n₀ ∧ n₀ ≤ xs.length ∧ xs.length = 0) ∨ (0 ≤ n₀ ∧ n₀ ≤ xs.length ∧ 0 < xs.length)) with hc | hc | hc | hc
  · refine start 25 Tryd.func50 rfl rfl rfl fun a hk => ?_
    have hB : Ext w0 w0 := Below.refl _ _
    refine wp_seq_k fun K1 hK1 => ?_
    refine wp_region_lit ?_
    refine la hk rfl (a_box hk rfl rfl fun a w b2 hk G => ?_)
    have hg_b2 : w0.heap.size ≤ b2 := Nat.le_trans hB.size G.ge
    have hB := ext_trans hB G.ext
    have h_b2 := G.at_
    clear G
    refine la hk rfl (a_box hk rfl rfl fun a w b3 hk G => ?_)
    have n_b2_b3 : b2 ≠ b3 := G.ne h_b2
    have hg_b3 : w0.heap.size ≤ b3 := Nat.le_trans hB.size G.ge
    have h_b2 := ext_at G.ext h_b2
    have hB := ext_trans hB G.ext
    have h_b3 := G.at_
    clear G
    refine ls hk rfl rfl rfl (e_assign hk rfl _) fun a hk => ?_
    refine ls hk rfl rfl rfl (e_assign hk rfl _) fun a hk => ?_
    refine lnil (hK1 _ _ ?_)
    refine wp_seq_k fun K2 hK2 => ?_
    refine wp_seq_k fun K3 hK3 => ?_
    refine wp_region_lit ?_
    refine ls hk rfl rfl rfl (r_ld1 hk rfl Tryd.underlying3 rfl h_b3) fun a hk => ?_
    refine ls hk rfl rfl rfl (e_lss (b := true) hk rfl rfl (decide_eq_true (by omega)) _) fun a hk => ?_
    refine ls hk rfl rfl rfl (e_move hk rfl _) fun a hk => ?_
    refine lno hk rfl rfl rfl fun a hk => ?_
    refine lno hk rfl rfl rfl fun a hk => ?_
    refine lno hk rfl rfl rfl fun a hk => ?_
    refine lno hk rfl rfl rfl fun a hk => ?_
    refine ls hk rfl rfl rfl (e_pickT hk rfl rfl _) fun a hk => ?_
    refine lnil (hK3 _ _ ?_)
    refine cdT hk rfl ?_
    refine wp_seq_k fun K4 hK4 => ?_
    refine wp_region_lit ?_
    refine ls hk rfl rfl rfl (e_assign hk rfl _) fun a hk => ?_
    refine ls hk rfl rfl rfl (e_assign hk rfl _) fun a hk => ?_
    refine lnil (hK4 _ _ ?_)
    refine wp_ret ?_
    simp only [then_ret]
    exact ret2 hk rfl rfl rfl ⟨by rw [longR, if_pos (by omega)]; exact ⟨none, 0, rfl, rdg_nil, fun b o e => by cases e⟩, hB⟩
  · refine start 25 Tryd.func50 rfl rfl rfl fun a hk => ?_
    have hB : Ext w0 w0 := Below.refl _ _
    refine wp_seq_k fun K1 hK1 => ?_
    refine wp_region_lit ?_
    refine la hk rfl (a_box hk rfl rfl fun a w b2 hk G => ?_)
    have hg_b2 : w0.heap.size ≤ b2 := Nat.le_trans hB.size G.ge
    have hB := ext_trans hB G.ext
    have h_b2 := G.at_
    clear G
    refine la hk rfl (a_box hk rfl rfl fun a w b3 hk G => ?_)
    have n_b2_b3 : b2 ≠ b3 := G.ne h_b2
    have hg_b3 : w0.heap.size ≤ b3 := Nat.le_trans hB.size G.ge
    have h_b2 := ext_at G.ext h_b2
    have hB := ext_trans hB G.ext
    have h_b3 := G.at_
    clear G
    refine ls hk rfl rfl rfl (e_assign hk rfl _) fun a hk => ?_
    refine ls hk rfl rfl rfl (e_assign hk rfl _) fun a hk => ?_
    refine lnil (hK1 _ _ ?_)
    refine wp_seq_k fun K2 hK2 => ?_
    refine wp_seq_k fun K3 hK3 => ?_
    refine wp_region_lit ?_
    refine ls hk rfl rfl rfl (r_ld1 hk rfl Tryd.underlying3 rfl h_b3) fun a hk => ?_
    refine ls hk rfl rfl rfl (e_lss (b := false) hk rfl rfl (decide_eq_false (by omega)) _) fun a hk => ?_
    refine ls hk rfl rfl rfl (e_move hk rfl _) fun a hk => ?_
    refine ls hk rfl rfl rfl (r_ld1 hk rfl Tryd.underlying3 rfl h_b3) fun a hk => ?_
    refine ls hk rfl rfl rfl (r_ld1 hk rfl Tryd.underlying27 rfl h_b2) fun a hk => ?_
    refine ls hk rfl rfl rfl (e_lenS hk rfl Tryd.underlying27 _) fun a hk => ?_
    refine ls hk rfl rfl rfl (e_gtr (b := true) hk rfl rfl (decide_eq_true (by omega)) _) fun a hk => ?_
    refine ls hk rfl rfl rfl (e_pickF hk rfl rfl _) fun a hk => ?_
    refine lnil (hK3 _ _ ?_)
    refine cdT hk rfl ?_
    refine wp_seq_k fun K4 hK4 => ?_
    refine wp_region_lit ?_
    refine ls hk rfl rfl rfl (e_assign hk rfl _) fun a hk => ?_
    refine ls hk rfl rfl rfl (e_assign hk rfl _) fun a hk => ?_
    refine lnil (hK4 _ _ ?_)
    refine wp_ret ?_
    simp only [then_ret]
    exact ret2 hk rfl rfl rfl ⟨by rw [longR, if_pos (by omega)]; exact ⟨none, 0, rfl, rdg_nil, fun b o e => by cases e⟩, hB⟩
  · refine start 25 Tryd.func50 rfl rfl rfl fun a hk => ?_
    have hB : Ext w0 w0 := Below.refl _ _
    refine wp_seq_k fun K1 hK1 => ?_
    refine wp_region_lit ?_
    refine la hk rfl (a_box hk rfl rfl fun a w b2 hk G => ?_)
    have hg_b2 : w0.heap.size ≤ b2 := Nat.le_trans hB.size G.ge
    have hB := ext_trans hB G.ext
    have h_b2 := G.at_
    clear G
    refine la hk rfl (a_box hk rfl rfl fun a w b3 hk G => ?_)
    have n_b2_b3 : b2 ≠ b3 := G.ne h_b2
    have hg_b3 : w0.heap.size ≤ b3 := Nat.le_trans hB.size G.ge
    have h_b2 := ext_at G.ext h_b2
    have hB := ext_trans hB G.ext
    have h_b3 := G.at_
    clear G
    refine ls hk rfl rfl rfl (e_assign hk rfl _) fun a hk => ?_
    refine ls hk rfl rfl rfl (e_assign hk rfl _) fun a hk => ?_
    refine lnil (hK1 _ _ ?_)
    refine wp_seq_k fun K2 hK2 => ?_
    refine wp_seq_k fun K3 hK3 => ?_
    refine wp_region_lit ?_
    refine ls hk rfl rfl rfl (r_ld1 hk rfl Tryd.underlying3 rfl h_b3) fun a hk => ?_
    refine ls hk rfl rfl rfl (e_lss (b := false) hk rfl rfl (decide_eq_false (by omega)) _) fun a hk => ?_
    refine ls hk rfl rfl rfl (e_move hk rfl _) fun a hk => ?_
    refine ls hk rfl rfl rfl (r_ld1 hk rfl Tryd.underlying3 rfl h_b3) fun a hk => ?_
    refine ls hk rfl rfl rfl (r_ld1 hk rfl Tryd.underlying27 rfl h_b2) fun a hk => ?_
    refine ls hk rfl rfl rfl (e_lenS hk rfl Tryd.underlying27 _) fun a hk => ?_
    refine ls hk rfl rfl rfl (e_gtr (b := false) hk rfl rfl (decide_eq_false (by omega)) _) fun a hk => ?_
    refine ls hk rfl rfl rfl (e_pickF hk rfl rfl _) fun a hk => ?_
    refine lnil (hK3 _ _ ?_)
    refine cdF hk rfl ?_
    refine wp_skip (hK2 _ _ ?_)
    refine wp_seq_k fun K4 hK4 => ?_
    refine wp_seq_k fun K5 hK5 => ?_
    refine wp_region_lit ?_
    refine ls hk rfl rfl rfl (r_ld1 hk rfl Tryd.underlying27 rfl h_b2) fun a hk => ?_
    refine ls hk rfl rfl rfl (e_lenS hk rfl Tryd.underlying27 _) fun a hk => ?_
    refine ls hk rfl rfl rfl (e_eql (b := true) hk rfl rfl (decide_eq_true (by omega)) _) fun a hk => ?_
    refine lnil (hK5 _ _ ?_)
    refine cdT hk rfl ?_
    refine wp_seq_k fun K6 hK6 => ?_
    refine wp_region_lit ?_
    refine la hk rfl (a_call hk rfl rfl (c_fn hk rfl ok46) (c46 [] ⟨by decide, by simp⟩ none 0 _ rd_none (hG.ext hB)) ?_)
    rintro e w ⟨rfl, hE⟩
    refine ⟨_, rfl, fun a hk => ?_⟩
    have h_b2 := ext_at hE h_b2
    have h_b3 := ext_at hE h_b3
    have hB := ext_trans hB hE
    rw [rootS_nil] at hk
    clear hE
    refine la hk rfl (a_lit (cells := ((ofD 2 []).map B).toArray) (sz := 16) (by_ := 16) hk rfl rfl Tryd.underlying69 el44 (by decide) (by decide) (lit44 _ rfl _ (by simp [*])) (by simp [*]) fun a w bl hk G => ?_)
    have n_b2_bl : b2 ≠ bl := G.ne h_b2
    have n_b3_bl : b3 ≠ bl := G.ne h_b3
    have hg_bl : w0.heap.size ≤ bl := Nat.le_trans hB.size G.ge
    have h_b2 := ext_at G.ext h_b2
    have h_b3 := ext_at G.ext h_b3
    have hB := ext_trans hB G.ext
    have h_bl := G.at_
    clear G
    refine ls hk rfl rfl rfl (e_assign hk rfl _) fun a hk => ?_
    refine ls hk rfl rfl rfl (e_assign hk rfl _) fun a hk => ?_
    refine lnil (hK6 _ _ ?_)
    refine wp_ret ?_
    simp only [then_ret]
    exact ret2 hk rfl rfl rfl ⟨by rw [longR, if_neg (by omega), if_pos (by omega)]; exact ⟨_, _, rfl, rdg_lit h_bl (by simp), fun b o e => by cases e; exact heap_lt h_bl⟩, hB⟩
  · obtain ⟨n, rfl⟩ : ∃ k : Nat, n₀ = k := ⟨n₀.toNat, by omega⟩
    refine start 25 Tryd.func50 rfl rfl rfl fun a hk => ?_
    have hB : Ext w0 w0 := Below.refl _ _
    refine wp_seq_k fun K1 hK1 => ?_
    refine wp_region_lit ?_
    refine la hk rfl (a_box hk rfl rfl fun a w b2 hk G => ?_)
    have hg_b2 : w0.heap.size ≤ b2 := Nat.le_trans hB.size G.ge
    have hB := ext_trans hB G.ext
    have h_b2 := G.at_
    clear G
    refine la hk rfl (a_box hk rfl rfl fun a w b3 hk G => ?_)
    have n_b2_b3 : b2 ≠ b3 := G.ne h_b2
    have hg_b3 : w0.heap.size ≤ b3 := Nat.le_trans hB.size G.ge
    have h_b2 := ext_at G.ext h_b2
    have hB := ext_trans hB G.ext
    have h_b3 := G.at_
    clear G
    refine ls hk rfl rfl rfl (e_assign hk rfl _) fun a hk => ?_
    refine ls hk rfl rfl rfl (e_assign hk rfl _) fun a hk => ?_
    refine lnil (hK1 _ _ ?_)
    refine wp_seq_k fun K2 hK2 => ?_
    refine wp_seq_k fun K3 hK3 => ?_
    refine wp_region_lit ?_
    refine ls hk rfl rfl rfl (r_ld1 hk rfl Tryd.underlying3 rfl h_b3) fun a hk => ?_
    refine ls hk rfl rfl rfl (e_lss (b := false) hk rfl rfl (decide_eq_false (by omega)) _) fun a hk => ?_
    refine ls hk rfl rfl rfl (e_move hk rfl _) fun a hk => ?_
    refine ls hk rfl rfl rfl (r_ld1 hk rfl Tryd.underlying3 rfl h_b3) fun a hk => ?_
    refine ls hk rfl rfl rfl (r_ld1 hk rfl Tryd.underlying27 rfl h_b2) fun a hk => ?_
    refine ls hk rfl rfl rfl (e_lenS hk rfl Tryd.underlying27 _) fun a hk => ?_
    refine ls hk rfl rfl rfl (e_gtr (b := false) hk rfl rfl (decide_eq_false (by omega)) _) fun a hk => ?_
    refine ls hk rfl rfl rfl (e_pickF hk rfl rfl _) fun a hk => ?_
    refine lnil (hK3 _ _ ?_)
    refine cdF hk rfl ?_
    refine wp_skip (hK2 _ _ ?_)
    refine wp_seq_k fun K4 hK4 => ?_
    refine wp_seq_k fun K5 hK5 => ?_
    refine wp_region_lit ?_
    refine ls hk rfl rfl rfl (r_ld1 hk rfl Tryd.underlying27 rfl h_b2) fun a hk => ?_
    refine ls hk rfl rfl rfl (e_lenS hk rfl Tryd.underlying27 _) fun a hk => ?_
    refine ls hk rfl rfl rfl (e_eql (b := false) hk rfl rfl (decide_eq_false (by omega)) _) fun a hk => ?_
    refine lnil (hK5 _ _ ?_)
    refine cdF hk rfl ?_
    refine wp_skip (hK4 _ _ ?_)
    refine wp_seq_k fun K6 hK6 => ?_
    refine wp_region_lit ?_
    refine la hk rfl (a_alloc hk rfl zr69 fun a w b6 hk G => ?_)
    have n_b2_b6 : b2 ≠ b6 := G.ne h_b2
    have n_b3_b6 : b3 ≠ b6 := G.ne h_b3
    have hg_b6 : w0.heap.size ≤ b6 := Nat.le_trans hB.size G.ge
    have h_b2 := ext_at G.ext h_b2
    have h_b3 := ext_at G.ext h_b3
    have hB := ext_trans hB G.ext
    have h_b6 := G.at_
    clear G
    refine lnil (hK6 _ _ ?_)
    refine wp_seq_k fun K7 hK7 => ?_
    refine wp_region_lit ?_
    refine ls hk rfl rfl rfl (r_ld1 hk rfl Tryd.underlying27 rfl h_b2) fun a hk => ?_
    refine ls hk rfl rfl rfl (e_lenS hk rfl Tryd.underlying27 _) fun a hk => ?_
    refine ls hk rfl rfl rfl (e_func hk rfl rfl _) fun a hk => ?_
    refine la hk rfl (a_call hk rfl rfl (c_fn hk rfl ok97) (w97L xs hL (by omega) ad c n b2 b3 b6 w0 w hR hG hB hg_b6 h_b6 h_b2 h_b3 n_b2_b6 n_b3_b6) ?_)
    rintro e w ⟨rfl, hCol, hE⟩
    refine ⟨_, rfl, fun a hk => ?_⟩
    have h_b2 := (hCol.other _ (heap_lt h_b2) n_b2_b6).trans h_b2
    have h_b3 := (hCol.other _ (heap_lt h_b3) n_b3_b6).trans h_b3
    have hB := hE
    obtain ⟨v, h_p, hown⟩ := hCol.cell
    obtain ⟨ad1, c1, rfl, hRg⟩ := rdg_own hown hCol.len
    clear hE
    refine lnil (hK7 _ _ ?_)
    refine wp_seq_k fun K8 hK8 => ?_
    refine wp_region_lit ?_
    refine ls hk rfl rfl rfl (r_ld1 hk rfl Tryd.underlying69 rfl h_p) fun a hk => ?_
    refine ls hk rfl rfl rfl (e_assign hk rfl _) fun a hk => ?_
    refine ls hk rfl rfl rfl (e_assign hk rfl _) fun a hk => ?_
    refine lnil (hK8 _ _ ?_)
    refine wp_ret ?_
    exact ret2 hk rfl rfl rfl ⟨by rw [longR, if_neg (by omega), if_neg (by omega)]; exact ⟨ad1, c1, rfl, hRg, fun b o e => by subst e; exact (hown.lt b rfl).2⟩, hB⟩

end Go.Proofs.YtidfbboalbchiaaDoor

namespace Go.Proofs.YtidfbboalbchiaaDoor
open Go Go.RowKit

/-- The cells of a list of pairs. -/
def pairs (l : List (Nat × Nat)) : List Value := (l.map fun p => [I (p.1 : Nat), I (p.2 : Nat)]).flatten
theorem pairs_append (l r : List (Nat × Nat)) : pairs (l ++ r) = pairs l ++ pairs r := by simp [pairs]
theorem length_pairs (l : List (Nat × Nat)) : (pairs l).length = l.length * 2 := by
  induction l with
  | nil => rfl
  | cons p r ih => simp only [pairs, List.map_cons, List.flatten_cons, List.length_append, List.length_cons, List.length_nil] at ih ⊢; omega
theorem pairs_one {l : List (Nat × Nat)} : ∀ u ∈ pairs l, u.oneCell' = true := by
  intro u hu
  simp only [pairs, List.mem_flatten, List.mem_map] at hu
  obtain ⟨q, ⟨p, _, rfl⟩, hu⟩ := hu
  simp at hu
  rcases hu with rfl | rfl <;> rfl
theorem pairs_get (l : List (Nat × Nat)) : ∀ i (p : Nat × Nat), l[i]? = some p → (pairs l)[i * 2]? = some (I (p.1 : Nat)) ∧ (pairs l)[i * 2 + 1]? = some (I (p.2 : Nat)) := by
  induction l with
  | nil => intro i p h; simp at h
  | cons q r ih =>
    intro i p h
    have e : pairs (q :: r) = I (q.1 : Nat) :: I (q.2 : Nat) :: pairs r := by simp [pairs]
    rw [e]
    cases i with
    | zero => simp at h; subst h; exact ⟨rfl, rfl⟩
    | succ i =>
      obtain ⟨h1, h2⟩ := ih i p (by simpa using h)
      rw [show (i + 1) * 2 = i * 2 + 1 + 1 by omega]
      exact ⟨by simpa using h1, by simpa using h2⟩
def Rdp (w : World) (ad : Option Addr) (n c : Nat) (l : List (Nat × Nat)) : Prop := Rd w ad n c 2 (pairs l)
theorem Rdp.get {w : World} {ad : Option Addr} {c : Nat} {l : List (Nat × Nat)} (h : Rdp w ad l.length c l) (i : Nat) (p : Nat × Nat) (hp : l[i]? = some p) : ∃ b o, ad = some ⟨b, o, none⟩ ∧ w.cell? ⟨b, o + i * 2 + 0 * 1, none⟩ = some (I (p.1 : Nat)) ∧ w.cell? ⟨b, o + i * 2 + 1 * 1, none⟩ = some (I (p.2 : Nat)) := by
  obtain ⟨h1, h2⟩ := pairs_get l i p hp
  obtain ⟨b, o, e, c1⟩ := h.2.2 _ _ h1
  obtain ⟨b', o', e', c2⟩ := h.2.2 _ _ h2
  rw [e] at e'
  cases e'
  exact ⟨b, o, e, by simpa using c1, by rw [show o + i * 2 + 1 * 1 = o + (i * 2 + 1) by omega]; exact c2⟩
theorem lit66 (z : Value) (a b : Nat) : Instr.fill (fun i => some (i * 2, 2)) ((Array.range (1 * 2)).map (z.cells[· % z.cells.size]!)) [(0, .agg #[I (a : Nat), I (b : Nat)])] = some #[I (a : Nat), I (b : Nat)] := by
  rw [fill_part _ _ 0 (.agg #[I (a : Nat), I (b : Nat)]) [I (a : Nat), I (b : Nat)] 0 2 [] rfl rfl rfl (by simp)]
  rw [Instr.fill, List.drop_of_length_le (by simp)]
  simp
theorem len_restS (f t a b : Nat) (h : a < b) : (restS f t a b).length ≤ b - a := stops_len _ a b h
theorem findS_lt {R : List (Nat × Nat)} {p : Nat × Nat} {i : Nat} (h : findS R p = some i) : i < R.length := by
  unfold findS at h
  exact (List.findIdx?_eq_some_iff_getElem.1 h).1

set_option maxRecDepth 4000 in
set_option maxHeartbeats 1000000 in
theorem c101 (f₀ t₀ : Nat) : ∀ n (a₀ b₀ : Nat) (w0 : World), b₀ - a₀ = n → a₀ < b₀ → b₀ ≤ 1073741824 →
    Calls Tryd.prog 101 #[I a₀, I b₀, I f₀, I t₀] w0 fun e w' => ∃ v, e = .returned v ∧ w'.ownsRow w0.heap.size 66 2 v (restS f₀ t₀ a₀ b₀).length (pairs (restS f₀ t₀ a₀ b₀)) ∧ Ext w0 w' := by
  intro n
  induction n using Nat.strongRecOn with
  | _ n ih =>
  intro a₀ b₀ w0 hn hab hle
  rcases (by omega : b₀ ≤ f₀ ∨ (¬ b₀ ≤ f₀ ∧ t₀ ≤ a₀) ∨ (¬ b₀ ≤ f₀ ∧ ¬ t₀ ≤ a₀ ∧ b₀ - a₀ = 1) ∨ (¬ b₀ ≤ f₀ ∧ ¬ t₀ ≤ a₀ ∧ ¬ b₀ - a₀ = 1)) with hc | hc | hc | hc
  · have ho : outI f₀ t₀ a₀ b₀ = true := by unfold outI; simp; omega
    refine start 45 Tryd.func101 rfl rfl rfl fun a hk => ?_
    have hB : Ext w0 w0 := Below.refl _ _
    refine wp_seq_k fun K1 hK1 => ?_
    refine wp_region_lit ?_
    refine ls hk rfl rfl rfl (e_assign hk rfl _) fun a hk => ?_
    refine lnil (hK1 _ _ ?_)
    refine wp_seq_k fun K2 hK2 => ?_
    refine wp_seq_k fun K3 hK3 => ?_
    refine wp_region_lit ?_
    refine ls hk rfl rfl rfl (e_move hk rfl _) fun a hk => ?_
    refine ls hk rfl rfl rfl (e_move hk rfl _) fun a hk => ?_
    refine ls hk rfl rfl rfl (e_leq (b := true) hk rfl rfl (decide_eq_true (by omega)) _) fun a hk => ?_
    refine ls hk rfl rfl rfl (e_move hk rfl _) fun a hk => ?_
    refine lno hk rfl rfl rfl fun a hk => ?_
    refine lno hk rfl rfl rfl fun a hk => ?_
    refine lno hk rfl rfl rfl fun a hk => ?_
    refine ls hk rfl rfl rfl (e_pickT hk rfl rfl _) fun a hk => ?_
    refine lnil (hK3 _ _ ?_)
    refine cdT hk rfl ?_
    refine wp_seq_k fun K4 hK4 => ?_
    refine wp_region_lit ?_
    refine ls hk rfl rfl rfl (e_move hk rfl _) fun a hk => ?_
    refine ls hk rfl rfl rfl (e_move hk rfl _) fun a hk => ?_
    refine ls hk rfl rfl rfl (e_buildA (cells := #[I (a₀ : Nat), I (b₀ : Nat)]) hk rfl zr66 Tryd.underlying66 sz3 rfl _) fun a hk => ?_
    refine la hk rfl (a_lit (cells := #[I (a₀ : Nat), I (b₀ : Nat)]) (sz := 2) (by_ := 16) hk rfl rfl Tryd.underlying67 el66 (by decide) (by decide) (lit66 _ a₀ b₀) rfl fun a w bl hk GL => ?_)
    have hown : w.ownsRow w0.heap.size 66 2 (.slice (some ⟨bl, 0, none⟩) 1 1) 1 (pairs [(a₀, b₀)]) := own_mono (lit_own (n := 1) (sz := 2) GL rfl (by decide)) hB.size
    have hB := ext_trans hB GL.ext
    refine ls hk rfl rfl rfl (e_assign hk rfl _) fun a hk => ?_
    refine lnil (hK4 _ _ ?_)
    refine wp_ret ?_
    simp only [then_ret]
    exact ret1 hk rfl rfl ⟨_, rfl, by rw [show restS f₀ t₀ a₀ b₀ = [(a₀, b₀)] from stops_stop ho]; exact hown, hB⟩
  · have ho : outI f₀ t₀ a₀ b₀ = true := by unfold outI; simp; omega
    refine start 45 Tryd.func101 rfl rfl rfl fun a hk => ?_
    have hB : Ext w0 w0 := Below.refl _ _
    refine wp_seq_k fun K1 hK1 => ?_
    refine wp_region_lit ?_
    refine ls hk rfl rfl rfl (e_assign hk rfl _) fun a hk => ?_
    refine lnil (hK1 _ _ ?_)
    refine wp_seq_k fun K2 hK2 => ?_
    refine wp_seq_k fun K3 hK3 => ?_
    refine wp_region_lit ?_
    refine ls hk rfl rfl rfl (e_move hk rfl _) fun a hk => ?_
    refine ls hk rfl rfl rfl (e_move hk rfl _) fun a hk => ?_
    refine ls hk rfl rfl rfl (e_leq (b := false) hk rfl rfl (decide_eq_false (by omega)) _) fun a hk => ?_
    refine ls hk rfl rfl rfl (e_move hk rfl _) fun a hk => ?_
    refine ls hk rfl rfl rfl (e_move hk rfl _) fun a hk => ?_
    refine ls hk rfl rfl rfl (e_move hk rfl _) fun a hk => ?_
    refine ls hk rfl rfl rfl (e_geq (b := true) hk rfl rfl (decide_eq_true (by omega)) _) fun a hk => ?_
    refine ls hk rfl rfl rfl (e_pickF hk rfl rfl _) fun a hk => ?_
    refine lnil (hK3 _ _ ?_)
    refine cdT hk rfl ?_
    refine wp_seq_k fun K4 hK4 => ?_
    refine wp_region_lit ?_
    refine ls hk rfl rfl rfl (e_move hk rfl _) fun a hk => ?_
    refine ls hk rfl rfl rfl (e_move hk rfl _) fun a hk => ?_
    refine ls hk rfl rfl rfl (e_buildA (cells := #[I (a₀ : Nat), I (b₀ : Nat)]) hk rfl zr66 Tryd.underlying66 sz3 rfl _) fun a hk => ?_
    refine la hk rfl (a_lit (cells := #[I (a₀ : Nat), I (b₀ : Nat)]) (sz := 2) (by_ := 16) hk rfl rfl Tryd.underlying67 el66 (by decide) (by decide) (lit66 _ a₀ b₀) rfl fun a w bl hk GL => ?_)
    have hown : w.ownsRow w0.heap.size 66 2 (.slice (some ⟨bl, 0, none⟩) 1 1) 1 (pairs [(a₀, b₀)]) := own_mono (lit_own (n := 1) (sz := 2) GL rfl (by decide)) hB.size
    have hB := ext_trans hB GL.ext
    refine ls hk rfl rfl rfl (e_assign hk rfl _) fun a hk => ?_
    refine lnil (hK4 _ _ ?_)
    refine wp_ret ?_
    simp only [then_ret]
    exact ret1 hk rfl rfl ⟨_, rfl, by rw [show restS f₀ t₀ a₀ b₀ = [(a₀, b₀)] from stops_stop ho]; exact hown, hB⟩
  · have ho : outI f₀ t₀ a₀ b₀ = false := by unfold outI; simp; omega
    refine start 45 Tryd.func101 rfl rfl rfl fun a hk => ?_
    have hB : Ext w0 w0 := Below.refl _ _
    refine wp_seq_k fun K1 hK1 => ?_
    refine wp_region_lit ?_
    refine ls hk rfl rfl rfl (e_assign hk rfl _) fun a hk => ?_
    refine lnil (hK1 _ _ ?_)
    refine wp_seq_k fun K2 hK2 => ?_
    refine wp_seq_k fun K3 hK3 => ?_
    refine wp_region_lit ?_
    refine ls hk rfl rfl rfl (e_move hk rfl _) fun a hk => ?_
    refine ls hk rfl rfl rfl (e_move hk rfl _) fun a hk => ?_
    refine ls hk rfl rfl rfl (e_leq (b := false) hk rfl rfl (decide_eq_false (by omega)) _) fun a hk => ?_
    refine ls hk rfl rfl rfl (e_move hk rfl _) fun a hk => ?_
    refine ls hk rfl rfl rfl (e_move hk rfl _) fun a hk => ?_
    refine ls hk rfl rfl rfl (e_move hk rfl _) fun a hk => ?_
    refine ls hk rfl rfl rfl (e_geq (b := false) hk rfl rfl (decide_eq_false (by omega)) _) fun a hk => ?_
    refine ls hk rfl rfl rfl (e_pickF hk rfl rfl _) fun a hk => ?_
    refine lnil (hK3 _ _ ?_)
    refine cdF hk rfl ?_
    refine wp_skip (hK2 _ _ ?_)
    refine wp_seq_k fun K4 hK4 => ?_
    refine wp_seq_k fun K5 hK5 => ?_
    refine wp_region_lit ?_
    refine ls hk rfl rfl rfl (e_move hk rfl _) fun a hk => ?_
    refine ls hk rfl rfl rfl (e_move hk rfl _) fun a hk => ?_
    refine ls hk rfl rfl rfl (e_sub (q := ((b₀ - a₀ : Nat) : Int)) hk rfl rfl (by rw [i64 (by omega) (by omega)]; omega) _) fun a hk => ?_
    refine ls hk rfl rfl rfl (e_eql (b := true) hk rfl rfl (decide_eq_true (by omega)) _) fun a hk => ?_
    refine lnil (hK5 _ _ ?_)
    refine cdT hk rfl ?_
    refine wp_seq_k fun K6 hK6 => ?_
    refine wp_region_lit ?_
    refine ls hk rfl rfl rfl (e_assign hk rfl _) fun a hk => ?_
    refine lnil (hK6 _ _ ?_)
    refine wp_ret ?_
    simp only [then_ret]
    exact ret1 hk rfl rfl ⟨_, rfl, by rw [show restS f₀ t₀ a₀ b₀ = [] from stops_one ho (by omega)]; exact own_nil, hB⟩
  · have ho : outI f₀ t₀ a₀ b₀ = false := by unfold outI; simp; omega
    have h2 : 2 ≤ b₀ - a₀ := by omega
    refine start 45 Tryd.func101 rfl rfl rfl fun a hk => ?_
    have hB : Ext w0 w0 := Below.refl _ _
    refine wp_seq_k fun K1 hK1 => ?_
    refine wp_region_lit ?_
    refine ls hk rfl rfl rfl (e_assign hk rfl _) fun a hk => ?_
    refine lnil (hK1 _ _ ?_)
    refine wp_seq_k fun K2 hK2 => ?_
    refine wp_seq_k fun K3 hK3 => ?_
    refine wp_region_lit ?_
    refine ls hk rfl rfl rfl (e_move hk rfl _) fun a hk => ?_
    refine ls hk rfl rfl rfl (e_move hk rfl _) fun a hk => ?_
    refine ls hk rfl rfl rfl (e_leq (b := false) hk rfl rfl (decide_eq_false (by omega)) _) fun a hk => ?_
    refine ls hk rfl rfl rfl (e_move hk rfl _) fun a hk => ?_
    refine ls hk rfl rfl rfl (e_move hk rfl _) fun a hk => ?_
    refine ls hk rfl rfl rfl (e_move hk rfl _) fun a hk => ?_
    refine ls hk rfl rfl rfl (e_geq (b := false) hk rfl rfl (decide_eq_false (by omega)) _) fun a hk => ?_
    refine ls hk rfl rfl rfl (e_pickF hk rfl rfl _) fun a hk => ?_
    refine lnil (hK3 _ _ ?_)
    refine cdF hk rfl ?_
    refine wp_skip (hK2 _ _ ?_)
    refine wp_seq_k fun K4 hK4 => ?_
    refine wp_seq_k fun K5 hK5 => ?_
    refine wp_region_lit ?_
    refine ls hk rfl rfl rfl (e_move hk rfl _) fun a hk => ?_
    refine ls hk rfl rfl rfl (e_move hk rfl _) fun a hk => ?_
    refine ls hk rfl rfl rfl (e_sub (q := ((b₀ - a₀ : Nat) : Int)) hk rfl rfl (by rw [i64 (by omega) (by omega)]; omega) _) fun a hk => ?_
    refine ls hk rfl rfl rfl (e_eql (b := false) hk rfl rfl (decide_eq_false (by omega)) _) fun a hk => ?_
    refine lnil (hK5 _ _ ?_)
    refine cdF hk rfl ?_
    refine wp_skip (hK4 _ _ ?_)
    refine wp_seq_k fun K6 hK6 => ?_
    refine wp_region_lit ?_
    refine ls hk rfl rfl rfl (e_move hk rfl _) fun a hk => ?_
    refine ls hk rfl rfl rfl (e_move hk rfl _) fun a hk => ?_
    refine ls hk rfl rfl rfl (e_sub (q := ((b₀ - a₀ : Nat) : Int)) hk rfl rfl (by rw [i64 (by omega) (by omega)]; omega) _) fun a hk => ?_
    refine la hk rfl (a_call hk rfl rfl (c_fn hk rfl ok95) (c95 (b₀ - a₀) _ (by omega)) ?_)
    rintro e w ⟨rfl, hE⟩
    refine ⟨_, rfl, fun a hk => ?_⟩
    have hB := ext_trans hB hE
    have hhp := hlf_pos (b₀ - a₀)
    have hhl := hlf_lt h2
    clear hE
    refine ls hk rfl rfl rfl (e_assign hk rfl _) fun a hk => ?_
    refine lnil (hK6 _ _ ?_)
    refine wp_seq_k fun K7 hK7 => ?_
    refine wp_region_lit ?_
    refine ls hk rfl rfl rfl (e_move hk rfl _) fun a hk => ?_
    refine ls hk rfl rfl rfl (e_move hk rfl _) fun a hk => ?_
    refine ls hk rfl rfl rfl (e_move hk rfl _) fun a hk => ?_
    refine ls hk rfl rfl rfl (e_add (q := ((a₀ + hlf (b₀ - a₀) : Nat) : Int)) hk rfl rfl (by rw [i64 (by omega) (by omega)]; omega) _) fun a hk => ?_
    refine ls hk rfl rfl rfl (e_move hk rfl _) fun a hk => ?_
    refine ls hk rfl rfl rfl (e_move hk rfl _) fun a hk => ?_
    have hB0 := hB.size
    refine la hk rfl (a_call hk rfl rfl (c_fn hk rfl ok101) (ih _ (by omega) a₀ (a₀ + hlf (b₀ - a₀)) _ rfl (by omega) (by omega)) ?_)
    rintro e w ⟨v1, rfl, hown, hE⟩
    refine ⟨_, rfl, fun a hk => ?_⟩
    have hB := ext_trans hB hE
    have hown := own_mono hown hB0
    clear hE
    refine ls hk rfl rfl rfl (e_move hk rfl _) fun a hk => ?_
    refine ls hk rfl rfl rfl (e_move hk rfl _) fun a hk => ?_
    refine ls hk rfl rfl rfl (e_add (q := ((a₀ + hlf (b₀ - a₀) : Nat) : Int)) hk rfl rfl (by rw [i64 (by omega) (by omega)]; omega) _) fun a hk => ?_
    refine ls hk rfl rfl rfl (e_move hk rfl _) fun a hk => ?_
    refine ls hk rfl rfl rfl (e_move hk rfl _) fun a hk => ?_
    refine ls hk rfl rfl rfl (e_move hk rfl _) fun a hk => ?_
    refine la hk rfl (a_call hk rfl rfl (c_fn hk rfl ok101) (ih _ (by omega) (a₀ + hlf (b₀ - a₀)) b₀ _ rfl (by omega) (by omega)) ?_)
    rintro e w ⟨v2, rfl, hown2, hE⟩
    refine ⟨_, rfl, fun a hk => ?_⟩
    have hown := own_ext hown hE
    have hB := ext_trans hB hE
    obtain ⟨ad2, c2, rfl, _, hR2⟩ := Rd.of_own hown2
    have hN1 : (restS f₀ t₀ a₀ (a₀ + hlf (b₀ - a₀))).length ≤ _ := stops_len (outI f₀ t₀) a₀ (a₀ + hlf (b₀ - a₀)) (by omega)
    have hN2 : (restS f₀ t₀ (a₀ + hlf (b₀ - a₀)) b₀).length ≤ _ := stops_len (outI f₀ t₀) (a₀ + hlf (b₀ - a₀)) b₀ (by omega)
    clear hE
    refine la hk rfl (a_app (by_ := 16) hk rfl rfl hown rfl hR2 pairs_one Tryd.underlying67 el66 rfl (by decide) (by omega) (by omega) hB.size fun a w v hk hown' hKp => ?_)
    have hB := kept_below hKp hB hown (Nat.le_refl _) hB.size
    refine ls hk rfl rfl rfl (e_assign hk rfl _) fun a hk => ?_
    refine lnil (hK7 _ _ ?_)
    refine wp_ret ?_
    exact ret1 hk rfl rfl ⟨_, rfl, by rw [show restS f₀ t₀ a₀ b₀ = _ from stops_more ho h2, pairs_append, List.length_append]; exact hown', hB⟩

set_option maxRecDepth 4000 in
set_option maxHeartbeats 1000000 in
theorem c104 (n₀ : Nat) : ∀ n (a₀ b₀ : Nat) (w0 : World), b₀ - a₀ = n → a₀ < b₀ → b₀ ≤ 1073741824 →
    Calls Tryd.prog 104 #[I a₀, I b₀, I n₀] w0 fun e w' => ∃ v, e = .returned v ∧ w'.ownsRow w0.heap.size 66 2 v (stepsS n₀ a₀ b₀).length (pairs (stepsS n₀ a₀ b₀)) ∧ Ext w0 w' := by
  intro n
  induction n using Nat.strongRecOn with
  | _ n ih =>
  intro a₀ b₀ w0 hn hab hle
  rcases (by omega : b₀ ≤ n₀ ∨ (¬ b₀ ≤ n₀ ∧ n₀ ≤ a₀) ∨ (¬ b₀ ≤ n₀ ∧ ¬ n₀ ≤ a₀)) with hc | hc | hc
  · have ho : farB n₀ a₀ b₀ = true := by unfold farB; simp; omega
    refine start 37 Tryd.func104 rfl rfl rfl fun a hk => ?_
    have hB : Ext w0 w0 := Below.refl _ _
    refine wp_seq_k fun K1 hK1 => ?_
    refine wp_region_lit ?_
    refine ls hk rfl rfl rfl (e_assign hk rfl _) fun a hk => ?_
    refine lnil (hK1 _ _ ?_)
    refine wp_seq_k fun K2 hK2 => ?_
    refine wp_seq_k fun K3 hK3 => ?_
    refine wp_region_lit ?_
    refine ls hk rfl rfl rfl (e_move hk rfl _) fun a hk => ?_
    refine ls hk rfl rfl rfl (e_move hk rfl _) fun a hk => ?_
    refine ls hk rfl rfl rfl (e_leq (b := true) hk rfl rfl (decide_eq_true (by omega)) _) fun a hk => ?_
    refine ls hk rfl rfl rfl (e_move hk rfl _) fun a hk => ?_
    refine lno hk rfl rfl rfl fun a hk => ?_
    refine lno hk rfl rfl rfl fun a hk => ?_
    refine lno hk rfl rfl rfl fun a hk => ?_
    refine ls hk rfl rfl rfl (e_pickT hk rfl rfl _) fun a hk => ?_
    refine lnil (hK3 _ _ ?_)
    refine cdT hk rfl ?_
    refine wp_seq_k fun K4 hK4 => ?_
    refine wp_region_lit ?_
    refine ls hk rfl rfl rfl (e_move hk rfl _) fun a hk => ?_
    refine ls hk rfl rfl rfl (e_move hk rfl _) fun a hk => ?_
    refine ls hk rfl rfl rfl (e_buildA (cells := #[I (a₀ : Nat), I (b₀ : Nat)]) hk rfl zr66 Tryd.underlying66 sz3 rfl _) fun a hk => ?_
    refine la hk rfl (a_lit (cells := #[I (a₀ : Nat), I (b₀ : Nat)]) (sz := 2) (by_ := 16) hk rfl rfl Tryd.underlying67 el66 (by decide) (by decide) (lit66 _ a₀ b₀) rfl fun a w bl hk GL => ?_)
    have hown : w.ownsRow w0.heap.size 66 2 (.slice (some ⟨bl, 0, none⟩) 1 1) 1 (pairs [(a₀, b₀)]) := own_mono (lit_own (n := 1) (sz := 2) GL rfl (by decide)) hB.size
    have hB := ext_trans hB GL.ext
    refine ls hk rfl rfl rfl (e_assign hk rfl _) fun a hk => ?_
    refine lnil (hK4 _ _ ?_)
    refine wp_ret ?_
    simp only [then_ret]
    exact ret1 hk rfl rfl ⟨_, rfl, by rw [show stepsS n₀ a₀ b₀ = [(a₀, b₀)] from stops_stop ho]; exact hown, hB⟩
  · have ho : farB n₀ a₀ b₀ = true := by unfold farB; simp; omega
    refine start 37 Tryd.func104 rfl rfl rfl fun a hk => ?_
    have hB : Ext w0 w0 := Below.refl _ _
    refine wp_seq_k fun K1 hK1 => ?_
    refine wp_region_lit ?_
    refine ls hk rfl rfl rfl (e_assign hk rfl _) fun a hk => ?_
    refine lnil (hK1 _ _ ?_)
    refine wp_seq_k fun K2 hK2 => ?_
    refine wp_seq_k fun K3 hK3 => ?_
    refine wp_region_lit ?_
    refine ls hk rfl rfl rfl (e_move hk rfl _) fun a hk => ?_
    refine ls hk rfl rfl rfl (e_move hk rfl _) fun a hk => ?_
    refine ls hk rfl rfl rfl (e_leq (b := false) hk rfl rfl (decide_eq_false (by omega)) _) fun a hk => ?_
    refine ls hk rfl rfl rfl (e_move hk rfl _) fun a hk => ?_
    refine ls hk rfl rfl rfl (e_move hk rfl _) fun a hk => ?_
    refine ls hk rfl rfl rfl (e_move hk rfl _) fun a hk => ?_
    refine ls hk rfl rfl rfl (e_geq (b := true) hk rfl rfl (decide_eq_true (by omega)) _) fun a hk => ?_
    refine ls hk rfl rfl rfl (e_pickF hk rfl rfl _) fun a hk => ?_
    refine lnil (hK3 _ _ ?_)
    refine cdT hk rfl ?_
    refine wp_seq_k fun K4 hK4 => ?_
    refine wp_region_lit ?_
    refine ls hk rfl rfl rfl (e_move hk rfl _) fun a hk => ?_
    refine ls hk rfl rfl rfl (e_move hk rfl _) fun a hk => ?_
    refine ls hk rfl rfl rfl (e_buildA (cells := #[I (a₀ : Nat), I (b₀ : Nat)]) hk rfl zr66 Tryd.underlying66 sz3 rfl _) fun a hk => ?_
    refine la hk rfl (a_lit (cells := #[I (a₀ : Nat), I (b₀ : Nat)]) (sz := 2) (by_ := 16) hk rfl rfl Tryd.underlying67 el66 (by decide) (by decide) (lit66 _ a₀ b₀) rfl fun a w bl hk GL => ?_)
    have hown : w.ownsRow w0.heap.size 66 2 (.slice (some ⟨bl, 0, none⟩) 1 1) 1 (pairs [(a₀, b₀)]) := own_mono (lit_own (n := 1) (sz := 2) GL rfl (by decide)) hB.size
    have hB := ext_trans hB GL.ext
    refine ls hk rfl rfl rfl (e_assign hk rfl _) fun a hk => ?_
    refine lnil (hK4 _ _ ?_)
    refine wp_ret ?_
    simp only [then_ret]
    exact ret1 hk rfl rfl ⟨_, rfl, by rw [show stepsS n₀ a₀ b₀ = [(a₀, b₀)] from stops_stop ho]; exact hown, hB⟩
  · have ho : farB n₀ a₀ b₀ = false := by unfold farB; simp; omega
    have h2 : 2 ≤ b₀ - a₀ := by omega
    refine start 37 Tryd.func104 rfl rfl rfl fun a hk => ?_
    have hB : Ext w0 w0 := Below.refl _ _
    refine wp_seq_k fun K1 hK1 => ?_
    refine wp_region_lit ?_
    refine ls hk rfl rfl rfl (e_assign hk rfl _) fun a hk => ?_
    refine lnil (hK1 _ _ ?_)
    refine wp_seq_k fun K2 hK2 => ?_
    refine wp_seq_k fun K3 hK3 => ?_
    refine wp_region_lit ?_
    refine ls hk rfl rfl rfl (e_move hk rfl _) fun a hk => ?_
    refine ls hk rfl rfl rfl (e_move hk rfl _) fun a hk => ?_
    refine ls hk rfl rfl rfl (e_leq (b := false) hk rfl rfl (decide_eq_false (by omega)) _) fun a hk => ?_
    refine ls hk rfl rfl rfl (e_move hk rfl _) fun a hk => ?_
    refine ls hk rfl rfl rfl (e_move hk rfl _) fun a hk => ?_
    refine ls hk rfl rfl rfl (e_move hk rfl _) fun a hk => ?_
    refine ls hk rfl rfl rfl (e_geq (b := false) hk rfl rfl (decide_eq_false (by omega)) _) fun a hk => ?_
    refine ls hk rfl rfl rfl (e_pickF hk rfl rfl _) fun a hk => ?_
    refine lnil (hK3 _ _ ?_)
    refine cdF hk rfl ?_
    refine wp_skip (hK2 _ _ ?_)
    refine wp_seq_k fun K4 hK4 => ?_
    refine wp_region_lit ?_
    refine ls hk rfl rfl rfl (e_move hk rfl _) fun a hk => ?_
    refine ls hk rfl rfl rfl (e_move hk rfl _) fun a hk => ?_
    refine ls hk rfl rfl rfl (e_sub (q := ((b₀ - a₀ : Nat) : Int)) hk rfl rfl (by rw [i64 (by omega) (by omega)]; omega) _) fun a hk => ?_
    refine la hk rfl (a_call hk rfl rfl (c_fn hk rfl ok95) (c95 (b₀ - a₀) _ (by omega)) ?_)
    rintro e w ⟨rfl, hE⟩
    refine ⟨_, rfl, fun a hk => ?_⟩
    have hB := ext_trans hB hE
    have hhp := hlf_pos (b₀ - a₀)
    have hhl := hlf_lt h2
    clear hE
    refine ls hk rfl rfl rfl (e_assign hk rfl _) fun a hk => ?_
    refine lnil (hK4 _ _ ?_)
    refine wp_seq_k fun K5 hK5 => ?_
    refine wp_region_lit ?_
    refine ls hk rfl rfl rfl (e_move hk rfl _) fun a hk => ?_
    refine ls hk rfl rfl rfl (e_move hk rfl _) fun a hk => ?_
    refine ls hk rfl rfl rfl (e_move hk rfl _) fun a hk => ?_
    refine ls hk rfl rfl rfl (e_add (q := ((a₀ + hlf (b₀ - a₀) : Nat) : Int)) hk rfl rfl (by rw [i64 (by omega) (by omega)]; omega) _) fun a hk => ?_
    refine ls hk rfl rfl rfl (e_move hk rfl _) fun a hk => ?_
    have hB0 := hB.size
    refine la hk rfl (a_call hk rfl rfl (c_fn hk rfl ok104) (ih _ (by omega) a₀ (a₀ + hlf (b₀ - a₀)) _ rfl (by omega) (by omega)) ?_)
    rintro e w ⟨v1, rfl, hown, hE⟩
    refine ⟨_, rfl, fun a hk => ?_⟩
    have hB := ext_trans hB hE
    have hown := own_mono hown hB0
    clear hE
    refine ls hk rfl rfl rfl (e_move hk rfl _) fun a hk => ?_
    refine ls hk rfl rfl rfl (e_move hk rfl _) fun a hk => ?_
    refine ls hk rfl rfl rfl (e_add (q := ((a₀ + hlf (b₀ - a₀) : Nat) : Int)) hk rfl rfl (by rw [i64 (by omega) (by omega)]; omega) _) fun a hk => ?_
    refine ls hk rfl rfl rfl (e_move hk rfl _) fun a hk => ?_
    refine ls hk rfl rfl rfl (e_move hk rfl _) fun a hk => ?_
    refine la hk rfl (a_call hk rfl rfl (c_fn hk rfl ok104) (ih _ (by omega) (a₀ + hlf (b₀ - a₀)) b₀ _ rfl (by omega) (by omega)) ?_)
    rintro e w ⟨v2, rfl, hown2, hE⟩
    refine ⟨_, rfl, fun a hk => ?_⟩
    have hown := own_ext hown hE
    have hB := ext_trans hB hE
    obtain ⟨ad2, c2, rfl, _, hR2⟩ := Rd.of_own hown2
    have hN1 : (stepsS n₀ a₀ (a₀ + hlf (b₀ - a₀))).length ≤ _ := stops_len (farB n₀) a₀ (a₀ + hlf (b₀ - a₀)) (by omega)
    have hN2 : (stepsS n₀ (a₀ + hlf (b₀ - a₀)) b₀).length ≤ _ := stops_len (farB n₀) (a₀ + hlf (b₀ - a₀)) b₀ (by omega)
    clear hE
    refine la hk rfl (a_app (by_ := 16) hk rfl rfl hown rfl hR2 pairs_one Tryd.underlying67 el66 rfl (by decide) (by omega) (by omega) hB.size fun a w v hk hown' hKp => ?_)
    have hB := kept_below hKp hB hown (Nat.le_refl _) hB.size
    refine ls hk rfl rfl rfl (e_assign hk rfl _) fun a hk => ?_
    refine lnil (hK5 _ _ ?_)
    refine wp_ret ?_
    exact ret1 hk rfl rfl ⟨_, rfl, by rw [show stepsS n₀ a₀ b₀ = _ from stops_more ho h2, pairs_append, List.length_append]; exact hown', hB⟩

set_option maxRecDepth 4000 in
set_option maxHeartbeats 1000000 in
theorem c130 (R : List (Nat × Nat)) (ad : Option Addr) (c a₀ b₀ : Nat) (w0 : World) (hR : Rdp w0 ad R.length c R) (hn : R.length ≤ 1073741824) :
    Calls Tryd.prog 130 #[.slice ad R.length c, I a₀, I b₀] w0 fun e w' => e = .returned (match findS R (a₀, b₀) with | some i => I (i : Nat) | none => I (-1)) ∧ Ext w0 w' := by
  refine start 31 Tryd.func130 rfl rfl rfl fun a hk => ?_
  have hB : Ext w0 w0 := Below.refl _ _
  refine wp_seq_k fun K1 hK1 => ?_
  refine wp_region_lit ?_
  refine ls hk rfl rfl rfl (e_assign hk rfl _) fun a hk => ?_
  refine lnil (hK1 _ _ ?_)
  refine wp_seq_k fun K2 hK2 => ?_
  refine wp_seq_k fun K3 hK3 => ?_
  refine wp_region_lit ?_
  refine ls hk rfl rfl rfl (e_assign hk rfl _) fun a hk => ?_
  refine lnil (hK3 _ _ ?_)
  refine wp_block ?_
  refine loopN (fun n a w => ∃ i : Nat, n = R.length - i ∧ i ≤ R.length ∧ Kn a 31 [(0, .slice ad R.length c), (1, I a₀), (2, I b₀), (7, I i)] ∧ (Ext w0 w) ∧ ((a₀, b₀) ∉ R.take i)) (R.length - 0) ?_ fun n a w hI => ?_
  · exact ⟨0, rfl, by omega, hk.sub _ ⟨rfl, rfl, rfl, rfl, trivial⟩, hB, by simp⟩
  clear hk hB
  obtain ⟨i, rfl, hi_le, hk, hB, hno⟩ := hI
  refine wp_seq_k fun K4 hK4 => ?_
  refine wp_seq_k fun K5 hK5 => ?_
  refine wp_region_lit ?_
  refine ls hk rfl rfl rfl (e_move hk rfl _) fun a hk => ?_
  refine ls hk rfl rfl rfl (e_move hk rfl _) fun a hk => ?_
  refine ls hk rfl rfl rfl (e_lenS hk rfl Tryd.underlying67 _) fun a hk => ?_
  refine ls hk rfl rfl rfl (e_lss hk rfl rfl rfl _) fun a hk => ?_
  refine lnil (hK5 _ _ ?_)
  refine cdB hk rfl (fun hb => ?_) (fun hb => ?_)
  · have hil : i < R.length := by have := of_decide_eq_true hb; omega
    obtain ⟨p, hp⟩ : ∃ p, R[i]? = some p := ⟨_, List.getElem?_eq_getElem hil⟩
    obtain ⟨bp, op, rfl, hc1, hc2⟩ := Rdp.get (Rd.ext hR hB) i p hp
    have hTk : R.take (i + 1) = R.take i ++ [p] := by rw [List.take_add_one, hp]; rfl
    refine wp_skip (hK4 _ _ ?_)
    refine wp_seq_k fun K6 hK6 => ?_
    refine wp_block ?_
    refine wp_seq_k fun K7 hK7 => ?_
    rcases (by omega : p.1 = a₀ ∧ p.2 = b₀ ∨ p.1 = a₀ ∧ p.2 ≠ b₀ ∨ p.1 ≠ a₀) with ⟨h1, h2⟩ | ⟨h1, h2⟩ | h1
    · have hpe : p = (a₀, b₀) := Prod.ext h1 h2
      refine wp_region_lit ?_
      refine ls hk rfl rfl rfl (e_move hk rfl _) fun a hk => ?_
      refine ls hk rfl rfl rfl (e_move hk rfl _) fun a hk => ?_
      refine ls hk rfl rfl rfl (e_idxSn i hk rfl rfl Tryd.underlying67 sz66 rfl hil _) fun a hk => ?_
      refine ls hk rfl rfl rfl (e_idxAn 0 hk rfl rfl Tryd.underlying66 sz3 rfl (by decide) _) fun a hk => ?_
      refine ls hk rfl rfl rfl (r_load1 hk rfl Tryd.underlying3 rfl hc1) fun a hk => ?_
      refine ls hk rfl rfl rfl (e_move hk rfl _) fun a hk => ?_
      refine ls hk rfl rfl rfl (e_eql (b := true) hk rfl rfl (decide_eq_true (by omega)) _) fun a hk => ?_
      refine ls hk rfl rfl rfl (e_move hk rfl _) fun a hk => ?_
      refine ls hk rfl rfl rfl (e_move hk rfl _) fun a hk => ?_
      refine ls hk rfl rfl rfl (e_move hk rfl _) fun a hk => ?_
      refine ls hk rfl rfl rfl (e_idxSn i hk rfl rfl Tryd.underlying67 sz66 rfl hil _) fun a hk => ?_
      refine ls hk rfl rfl rfl (e_idxAn 1 hk rfl rfl Tryd.underlying66 sz3 rfl (by decide) _) fun a hk => ?_
      refine ls hk rfl rfl rfl (r_load1 hk rfl Tryd.underlying3 rfl hc2) fun a hk => ?_
      refine ls hk rfl rfl rfl (e_move hk rfl _) fun a hk => ?_
      refine ls hk rfl rfl rfl (e_eql (b := true) hk rfl rfl (decide_eq_true (by omega)) _) fun a hk => ?_
      refine ls hk rfl rfl rfl (e_pickT hk rfl rfl _) fun a hk => ?_
      refine lnil (hK7 _ _ ?_)
      refine cdT hk rfl ?_
      refine wp_seq_k fun K8 hK8 => ?_
      refine wp_region_lit ?_
      refine ls hk rfl rfl rfl (e_move hk rfl _) fun a hk => ?_
      refine ls hk rfl rfl rfl (e_assign hk rfl _) fun a hk => ?_
      refine lnil (hK8 _ _ ?_)
      refine wp_ret ?_
      simp only [blk_ret, then_ret]
      have hfi : findS R (a₀, b₀) = some i := by
        have e : R = R.take i ++ (a₀, b₀) :: R.drop (i + 1) := by
          have h3 : R[i] = (a₀, b₀) := by rw [← hpe]; exact (List.getElem?_eq_some_iff.1 hp).2
          rw [← h3, ← List.drop_eq_getElem_cons hil, List.take_append_drop]
        have h4 := find_at (P := R.take i) (Q := R.drop (i + 1)) hno
        rw [← e] at h4
        rw [h4]; simp; omega
      exact ret1 hk rfl rfl ⟨by rw [hfi], hB⟩
    · have hno2 : (a₀, b₀) ∉ R.take (i + 1) := by
        rw [hTk]
        intro h
        rcases List.mem_append.1 h with h | h
        · exact hno h
        · exact h2 (by rw [← List.mem_singleton.1 h])
      refine wp_region_lit ?_
      refine ls hk rfl rfl rfl (e_move hk rfl _) fun a hk => ?_
      refine ls hk rfl rfl rfl (e_move hk rfl _) fun a hk => ?_
      refine ls hk rfl rfl rfl (e_idxSn i hk rfl rfl Tryd.underlying67 sz66 rfl hil _) fun a hk => ?_
      refine ls hk rfl rfl rfl (e_idxAn 0 hk rfl rfl Tryd.underlying66 sz3 rfl (by decide) _) fun a hk => ?_
      refine ls hk rfl rfl rfl (r_load1 hk rfl Tryd.underlying3 rfl hc1) fun a hk => ?_
      refine ls hk rfl rfl rfl (e_move hk rfl _) fun a hk => ?_
      refine ls hk rfl rfl rfl (e_eql (b := true) hk rfl rfl (decide_eq_true (by omega)) _) fun a hk => ?_
      refine ls hk rfl rfl rfl (e_move hk rfl _) fun a hk => ?_
      refine ls hk rfl rfl rfl (e_move hk rfl _) fun a hk => ?_
      refine ls hk rfl rfl rfl (e_move hk rfl _) fun a hk => ?_
      refine ls hk rfl rfl rfl (e_idxSn i hk rfl rfl Tryd.underlying67 sz66 rfl hil _) fun a hk => ?_
      refine ls hk rfl rfl rfl (e_idxAn 1 hk rfl rfl Tryd.underlying66 sz3 rfl (by decide) _) fun a hk => ?_
      refine ls hk rfl rfl rfl (r_load1 hk rfl Tryd.underlying3 rfl hc2) fun a hk => ?_
      refine ls hk rfl rfl rfl (e_move hk rfl _) fun a hk => ?_
      refine ls hk rfl rfl rfl (e_eql (b := false) hk rfl rfl (decide_eq_false (by omega)) _) fun a hk => ?_
      refine ls hk rfl rfl rfl (e_pickT hk rfl rfl _) fun a hk => ?_
      refine lnil (hK7 _ _ ?_)
      refine cdF hk rfl ?_
      refine wp_skip (hK6 _ _ ?_)
      refine wp_region_lit ?_
      refine ls hk rfl rfl rfl (e_move hk rfl _) fun a hk => ?_
      refine ls hk rfl rfl rfl (e_add hk rfl rfl (i64 (by omega) (by omega)) _) fun a hk => ?_
      refine ls hk rfl rfl rfl (e_assign hk rfl _) fun a hk => ?_
      refine lnil (show ∃ m : Nat, m < _ ∧ _ from ⟨R.length - (i + 1), by omega, i + 1, rfl, by omega, hk.sub _ ⟨rfl, rfl, rfl, rfl, trivial⟩, hB, hno2⟩)
    · have hno2 : (a₀, b₀) ∉ R.take (i + 1) := by
        rw [hTk]
        intro h
        rcases List.mem_append.1 h with h | h
        · exact hno h
        · exact h1 (by rw [← List.mem_singleton.1 h])
      refine wp_region_lit ?_
      refine ls hk rfl rfl rfl (e_move hk rfl _) fun a hk => ?_
      refine ls hk rfl rfl rfl (e_move hk rfl _) fun a hk => ?_
      refine ls hk rfl rfl rfl (e_idxSn i hk rfl rfl Tryd.underlying67 sz66 rfl hil _) fun a hk => ?_
      refine ls hk rfl rfl rfl (e_idxAn 0 hk rfl rfl Tryd.underlying66 sz3 rfl (by decide) _) fun a hk => ?_
      refine ls hk rfl rfl rfl (r_load1 hk rfl Tryd.underlying3 rfl hc1) fun a hk => ?_
      refine ls hk rfl rfl rfl (e_move hk rfl _) fun a hk => ?_
      refine ls hk rfl rfl rfl (e_eql (b := false) hk rfl rfl (decide_eq_false (by omega)) _) fun a hk => ?_
      refine ls hk rfl rfl rfl (e_move hk rfl _) fun a hk => ?_
      refine lno hk rfl rfl rfl fun a hk => ?_
      refine lno hk rfl rfl rfl fun a hk => ?_
      refine lno hk rfl rfl rfl fun a hk => ?_
      refine lno hk rfl rfl rfl fun a hk => ?_
      refine lno hk rfl rfl rfl fun a hk => ?_
      refine lno hk rfl rfl rfl fun a hk => ?_
      refine lno hk rfl rfl rfl fun a hk => ?_
      refine ls hk rfl rfl rfl (e_pickF hk rfl rfl _) fun a hk => ?_
      refine lnil (hK7 _ _ ?_)
      refine cdF hk rfl ?_
      refine wp_skip (hK6 _ _ ?_)
      refine wp_region_lit ?_
      refine ls hk rfl rfl rfl (e_move hk rfl _) fun a hk => ?_
      refine ls hk rfl rfl rfl (e_add hk rfl rfl (i64 (by omega) (by omega)) _) fun a hk => ?_
      refine ls hk rfl rfl rfl (e_assign hk rfl _) fun a hk => ?_
      refine lnil (show ∃ m : Nat, m < _ ∧ _ from ⟨R.length - (i + 1), by omega, i + 1, rfl, by omega, hk.sub _ ⟨rfl, rfl, rfl, rfl, trivial⟩, hB, hno2⟩)
  · have hil : i = R.length := by have := of_decide_eq_false hb; omega
    subst hil
    rw [List.take_length] at hno
    refine wp_exit (hK2 _ _ ?_)
    refine wp_seq_k fun K9 hK9 => ?_
    refine wp_region_lit ?_
    refine ls hk rfl rfl rfl (e_assign hk rfl _) fun a hk => ?_
    refine lnil (hK9 _ _ ?_)
    refine wp_ret ?_
    exact ret1 hk rfl rfl ⟨by rw [find_none hno], hB⟩

set_option maxRecDepth 4000 in
set_option maxHeartbeats 1000000 in
theorem c100 (xs : List (List UInt8)) (hL : Lv xs) (R : List (Nat × Nat)) (hok : ∀ p ∈ R, p.1 ≤ p.2 ∧ p.2 ≤ xs.length) (ad ad2 : Option Addr) (c c2 : Nat) (w0 : World) (hR : Rs w0 ad xs.length c xs) (hR2 : Rdp w0 ad2 R.length c2 R) (hn : R.length ≤ 1073741824) (hG : GR w0) :
    Calls Tryd.prog 100 #[.slice ad xs.length c, .slice ad2 R.length c2] w0 fun e w' => ∃ v, e = .returned v ∧ w'.ownsRow w0.heap.size 44 16 v (rootsOf xs R).length (digs16 (rootsOf xs R)) ∧ Ext w0 w' := by
  have hL1 := hL.1
  refine start 30 Tryd.func100 rfl rfl rfl fun a hk => ?_
  have hB : Ext w0 w0 := Below.refl _ _
  refine wp_seq_k fun K1 hK1 => ?_
  refine wp_region_lit ?_
  refine ls hk rfl rfl rfl (e_assign hk rfl _) fun a hk => ?_
  refine lnil (hK1 _ _ ?_)
  refine wp_seq_k fun K2 hK2 => ?_
  refine wp_region_lit ?_
  refine ls hk rfl rfl rfl (e_assign hk rfl _) fun a hk => ?_
  refine lnil (hK2 _ _ ?_)
  refine wp_seq_k fun K3 hK3 => ?_
  refine wp_seq_k fun K4 hK4 => ?_
  refine wp_region_lit ?_
  refine ls hk rfl rfl rfl (e_assign hk rfl _) fun a hk => ?_
  refine lnil (hK4 _ _ ?_)
  refine wp_block ?_
  refine loopN (fun n a w => ∃ i : Nat, ∃ (v : Value), n = R.length - i ∧ i ≤ R.length ∧ Kn a 30 [(0, .slice ad xs.length c), (1, .slice ad2 R.length c2), (5, v), (6, I i)] ∧ (Ext w0 w) ∧ (w.ownsRow w0.heap.size 44 16 v i (digs16 ((rootsOf xs R).take i)))) (R.length - 0) ?_ fun n a w hI => ?_
  · exact ⟨0, _, rfl, by omega, hk.sub _ ⟨rfl, rfl, rfl, rfl, trivial⟩, hB, own_nil⟩
  clear hk hB
  obtain ⟨i, v, rfl, hi_le, hk, hB, hown⟩ := hI
  refine wp_seq_k fun K5 hK5 => ?_
  refine wp_seq_k fun K6 hK6 => ?_
  refine wp_region_lit ?_
  refine ls hk rfl rfl rfl (e_move hk rfl _) fun a hk => ?_
  refine ls hk rfl rfl rfl (e_move hk rfl _) fun a hk => ?_
  refine ls hk rfl rfl rfl (e_lenS hk rfl Tryd.underlying67 _) fun a hk => ?_
  refine ls hk rfl rfl rfl (e_lss hk rfl rfl rfl _) fun a hk => ?_
  refine lnil (hK6 _ _ ?_)
  refine cdB hk rfl (fun hb => ?_) (fun hb => ?_)
  · have hil : i < R.length := by have := of_decide_eq_true hb; omega
    obtain ⟨p, hp⟩ : ∃ p, R[i]? = some p := ⟨_, List.getElem?_eq_getElem hil⟩
    obtain ⟨bp, op, rfl, hc1, hc2⟩ := Rdp.get (Rd.ext hR2 hB) i p hp
    have ⟨hp1, hp2⟩ := hok p (List.mem_of_getElem? hp)
    have hTk : (rootsOf xs R).take (i + 1) = (rootsOf xs R).take i ++ [rootI xs p.1 p.2] := by rw [List.take_add_one]; simp [rootsOf, hp]
    refine wp_skip (hK5 _ _ ?_)
    refine wp_seq_k fun K7 hK7 => ?_
    refine wp_block ?_
    refine wp_region_ok (fun _ => True) [0, 0, 0, 0, 0, 0, 1, 0, 0, 0, 0, 1, 0, 2, 2, 2, 0] mixed ?_
    have hB := hB.drew
    have hown := own_ext hown (ext_drew w)
    refine d0 0 hk rfl (by kernel_rfl) rfl rfl rfl rfl (fun _ => e_move hk rfl _) fun a hk => ?_
    refine d0 1 hk rfl (by kernel_rfl) rfl rfl rfl rfl (fun _ => e_move hk rfl _) fun a hk => ?_
    refine d0 2 hk rfl (by kernel_rfl) rfl rfl rfl rfl (fun _ => e_move hk rfl _) fun a hk => ?_
    refine d0 3 hk rfl (by kernel_rfl) rfl rfl rfl rfl (fun _ => e_move hk rfl _) fun a hk => ?_
    refine d0 4 hk rfl (by kernel_rfl) rfl rfl rfl rfl (fun _ => e_idxSn i hk rfl rfl Tryd.underlying67 sz66 rfl hil _) fun a hk => ?_
    refine d0 5 hk rfl (by kernel_rfl) rfl rfl rfl rfl (fun _ => e_idxAn 0 hk rfl rfl Tryd.underlying66 sz3 rfl (by decide) _) fun a hk => ?_
    refine d1 6 hk rfl (by kernel_rfl) rfl rfl rfl rfl (r_load1 hk rfl Tryd.underlying3 rfl (ext_cell (ext_drew _) hc1)) fun a hk => ?_
    refine d0 7 hk rfl (by kernel_rfl) rfl rfl rfl rfl (fun _ => e_move hk rfl _) fun a hk => ?_
    refine d0 8 hk rfl (by kernel_rfl) rfl rfl rfl rfl (fun _ => e_move hk rfl _) fun a hk => ?_
    refine d0 9 hk rfl (by kernel_rfl) rfl rfl rfl rfl (fun _ => e_idxSn i hk rfl rfl Tryd.underlying67 sz66 rfl hil _) fun a hk => ?_
    refine d0 10 hk rfl (by kernel_rfl) rfl rfl rfl rfl (fun _ => e_idxAn 1 hk rfl rfl Tryd.underlying66 sz3 rfl (by decide) _) fun a hk => ?_
    refine d1 11 hk rfl (by kernel_rfl) rfl rfl rfl rfl (r_load1 hk rfl Tryd.underlying3 rfl (ext_cell (ext_drew _) hc2)) fun a hk => ?_
    refine d0 12 hk rfl (by kernel_rfl) rfl rfl rfl rfl (fun _ => e_slS hk rfl rfl rfl Tryd.underlying27 sz9 (by omega) (by omega) (by have := hR.2.1; omega) _) fun a hk => ?_
    have hRk := sub_mid (Rd.ext hR hB) (i := p.1) (j := p.2) hp1 hp2
    rw [← List.map_take, ← List.map_drop, show (xs.take p.2).drop p.1 = cut xs p.1 p.2 from rfl] at hRk
    rw [Int.toNat_natCast, Int.toNat_natCast] at hk
    generalize (if c = p.1 then ad else ad.map (·.add (p.1 * 1))) = adk at hk hRk
    have hcl := length_cut xs p.1 p.2 hp2
    have hk := hk.lift 25 (v := .slice adk (cut xs p.1 p.2).length (c - p.1)) (by rw [hcl]; rfl)
    have hRk : Rs w adk (cut xs p.1 p.2).length (c - p.1) (cut xs p.1 p.2) := by rw [hcl]; exact hRk
    have hLc : Lv (cut xs p.1 p.2) := ⟨by omega, fun x hx => hL.2 x (List.mem_of_mem_take (List.mem_of_mem_drop hx))⟩
    refine da 13 hk rfl (by kernel_rfl) rfl rfl (a_call hk rfl rfl (c_fn hk rfl ok47) (c47 _ (cut xs p.1 p.2) adk (c - p.1) _ rfl hLc hRk (hG.ext hB)) ?_)
    rintro e w ⟨rfl, hE⟩
    refine ⟨_, rfl, fun a hk => ?_⟩
    have hown := own_ext hown hE
    have hB := ext_trans hB hE
    clear hE
    refine da 14 hk rfl (by kernel_rfl) rfl rfl (a_lit (cells := ((rootI xs p.1 p.2).map B).toArray) (sz := 16) (by_ := 16) hk rfl rfl Tryd.underlying69 el44 (by decide) (by decide) (lit44 _ rfl (rootI xs p.1 p.2) (by simp)) (by simp) fun a w bl hk GL => ?_)
    have hown := own_ext hown GL.ext
    have hB := ext_trans hB GL.ext
    have hRl : Rd w (some ⟨bl, 0, none⟩) 1 1 16 ((rootI xs p.1 p.2).map B) := Rd.of_block GL.at_ (by simp) (Nat.le_refl _) fun i hi => by rw [Nat.zero_add]; simp
    clear GL
    refine da 15 hk rfl (by kernel_rfl) rfl rfl (a_app (news := (rootI xs p.1 p.2).map B) (by_ := 16) hk rfl rfl hown rfl hRl (bytes_one _) Tryd.underlying69 el44 rfl (by decide) (by omega) (by omega) hB.size fun a w v2 hk hown' hKp => ?_)
    have hB := kept_below hKp hB hown (Nat.le_refl _) hB.size
    clear hown
    have hown : w.ownsRow w0.heap.size 44 16 v2 (i + 1) (digs16 ((rootsOf xs R).take (i + 1))) := by rw [hTk, digs16_snoc]; exact hown'
    clear hown' hKp hRl
    refine d0 16 hk rfl (by kernel_rfl) rfl rfl rfl rfl (fun _ => e_assign hk rfl _) fun a hk => ?_
    refine okFin (by kernel_rfl) (hK7 _ _ ?_)
    refine wp_region_lit ?_
    refine ls hk rfl rfl rfl (e_move hk rfl _) fun a hk => ?_
    refine ls hk rfl rfl rfl (e_add hk rfl rfl (i64 (by omega) (by omega)) _) fun a hk => ?_
    refine ls hk rfl rfl rfl (e_assign hk rfl _) fun a hk => ?_
    refine lnil (show ∃ m : Nat, m < _ ∧ _ from ⟨R.length - (i + 1), by omega, i + 1, _, rfl, by omega, hk.sub _ ⟨rfl, rfl, rfl, rfl, trivial⟩, hB, hown⟩)
  · have hil : i = R.length := by have := of_decide_eq_false hb; omega
    subst hil
    rw [List.take_of_length_le (by rw [rootsOf_len]; omega)] at hown
    refine wp_exit (hK3 _ _ ?_)
    refine wp_seq_k fun K8 hK8 => ?_
    refine wp_region_lit ?_
    refine ls hk rfl rfl rfl (e_move hk rfl _) fun a hk => ?_
    refine ls hk rfl rfl rfl (e_assign hk rfl _) fun a hk => ?_
    refine lnil (hK8 _ _ ?_)
    refine wp_ret ?_
    exact ret1 hk rfl rfl ⟨_, rfl, by rw [rootsOf_len]; exact hown, hB⟩

end Go.Proofs.YtidfbboalbchiaaDoor

namespace Go.Proofs.YtidfbboalbchiaaDoor
open Go Go.RowKit

section
variable {a : Act} {w : World} {N d : Nat} {L : Fm} {ty : TypeId} {pos : String} {af : Array Edge} {g : Option (Nat × Bool)} {x : Operand} {dst : Option Tmp} {l : List UInt8} {bl o : Nat}
theorem r_ldR44 (hk : Kn a N L) (hx : ov L x = some (.pointer (some ⟨bl, o, none⟩))) (hc : w.rangeAt bl o (l.map B)) (hl : l.length = 16) : Ev Tryd.prog ⟨dst, .load 44 x, ty, pos, af, g⟩ a w (D l) :=
  r_loadR hk hx hc Tryd.underlying44 rfl (by rw [sz44]; simp [hl])
end
theorem getD_zD {l : List (List UInt8)} {c : Nat} (h : c < l.length) : l.getD c [] = l.getD c zD := by simp [h]
theorem stops_ok (st : Nat → Nat → Bool) (N : Nat) (h : 0 < N) : ∀ p ∈ stopsS st 0 N, p.1 ≤ p.2 ∧ p.2 ≤ N := fun p hp => by
  have := stops_in st 0 N h p hp
  omega

set_option maxRecDepth 4000 in
set_option maxHeartbeats 1000000 in
theorem c49 (xs : List (List UInt8)) (hL : Lv xs) (ad : Option Addr) (c : Nat) (f₀ t₀ : Int) (w0 : World) (hR : Rs w0 ad xs.length c xs) (hG : GR w0) :
    Calls Tryd.prog 49 #[.slice ad xs.length c, I f₀, I t₀] w0 fun e w' => PRes (provR xs f₀ t₀) e w' ∧ Ext w0 w' := by
  have hL1 := hL.1
  rcases (by omega : f₀ < 0 ∨ (0 ≤ f₀ ∧ f₀ ≥ t₀) ∨ (0 ≤ f₀ ∧ f₀ < t₀ ∧ t₀ > xs.length) ∨ (0 ≤ f₀ ∧ f₀ < t₀ ∧ t₀ ≤ xs.length)) with hc | hc | hc | hc
  · refine start 33 Tryd.func49 rfl rfl rfl fun a hk => ?_
    have hB : Ext w0 w0 := Below.refl _ _
    refine wp_seq_k fun K1 hK1 => ?_
    refine wp_region_lit ?_
    refine la hk rfl (a_alloc hk rfl zr74 fun a w b6 hk G => ?_)
    have hg_b6 : w0.heap.size ≤ b6 := Nat.le_trans hB.size G.ge
    have hB := ext_trans hB G.ext
    have h_b6 := G.at_
    clear G
    refine ls hk rfl rfl rfl (e_assign hk rfl _) fun a hk => ?_
    refine lnil (hK1 _ _ ?_)
    refine wp_seq_k fun K2 hK2 => ?_
    refine wp_seq_k fun K3 hK3 => ?_
    refine wp_region_lit ?_
    refine ls hk rfl rfl rfl (e_move hk rfl _) fun a hk => ?_
    refine ls hk rfl rfl rfl (e_lss (b := true) hk rfl rfl (decide_eq_true (by omega)) _) fun a hk => ?_
    refine ls hk rfl rfl rfl (e_move hk rfl _) fun a hk => ?_
    refine lno hk rfl rfl rfl fun a hk => ?_
    refine lno hk rfl rfl rfl fun a hk => ?_
    refine lno hk rfl rfl rfl fun a hk => ?_
    refine ls hk rfl rfl rfl (e_pickT hk rfl rfl _) fun a hk => ?_
    refine ls hk rfl rfl rfl (e_move hk rfl _) fun a hk => ?_
    refine lno hk rfl rfl rfl fun a hk => ?_
    refine lno hk rfl rfl rfl fun a hk => ?_
    refine lno hk rfl rfl rfl fun a hk => ?_
    refine lno hk rfl rfl rfl fun a hk => ?_
    refine ls hk rfl rfl rfl (e_pickT hk rfl rfl _) fun a hk => ?_
    refine lnil (hK3 _ _ ?_)
    refine cdT hk rfl ?_
    refine wp_seq_k fun K4 hK4 => ?_
    refine wp_region_lit ?_
    refine ls hk rfl rfl rfl (e_buildS (cells := #[I 0, I 0, .slice none 0 0]) (pl := #[(0, 1), (1, 1), (2, 1)]) hk rfl zr74 Tryd.underlying74 (fun w => by kernel_rfl) rfl _) fun a hk => ?_
    refine la hk rfl (a_storeB (cs' := #[I 0, I 0, .slice none 0 0]) hk rfl rfl (by simp [Value.oneCell']) sz74 h_b6 rfl fun a w hk W => ?_)
    have hB := W.below hB hg_b6
    have h_b6 := W.at_
    clear W
    refine ls hk rfl rfl rfl (e_assign hk rfl _) fun a hk => ?_
    refine lnil (hK4 _ _ ?_)
    refine wp_ret ?_
    simp only [then_ret]
    exact retA1 hk rfl rfl rfl h_b6 Tryd.underlying74 rfl sz74 ⟨by rw [provR, if_pos (by omega)]; exact ⟨none, 0, rfl, rdg_nil, fun b o e => by cases e⟩, hB⟩
  · refine start 33 Tryd.func49 rfl rfl rfl fun a hk => ?_
    have hB : Ext w0 w0 := Below.refl _ _
    refine wp_seq_k fun K1 hK1 => ?_
    refine wp_region_lit ?_
    refine la hk rfl (a_alloc hk rfl zr74 fun a w b6 hk G => ?_)
    have hg_b6 : w0.heap.size ≤ b6 := Nat.le_trans hB.size G.ge
    have hB := ext_trans hB G.ext
    have h_b6 := G.at_
    clear G
    refine ls hk rfl rfl rfl (e_assign hk rfl _) fun a hk => ?_
    refine lnil (hK1 _ _ ?_)
    refine wp_seq_k fun K2 hK2 => ?_
    refine wp_seq_k fun K3 hK3 => ?_
    refine wp_region_lit ?_
    refine ls hk rfl rfl rfl (e_move hk rfl _) fun a hk => ?_
    refine ls hk rfl rfl rfl (e_lss (b := false) hk rfl rfl (decide_eq_false (by omega)) _) fun a hk => ?_
    refine ls hk rfl rfl rfl (e_move hk rfl _) fun a hk => ?_
    refine ls hk rfl rfl rfl (e_move hk rfl _) fun a hk => ?_
    refine ls hk rfl rfl rfl (e_move hk rfl _) fun a hk => ?_
    refine ls hk rfl rfl rfl (e_geq (b := true) hk rfl rfl (decide_eq_true (by omega)) _) fun a hk => ?_
    refine ls hk rfl rfl rfl (e_pickF hk rfl rfl _) fun a hk => ?_
    refine ls hk rfl rfl rfl (e_move hk rfl _) fun a hk => ?_
    refine lno hk rfl rfl rfl fun a hk => ?_
    refine lno hk rfl rfl rfl fun a hk => ?_
    refine lno hk rfl rfl rfl fun a hk => ?_
    refine lno hk rfl rfl rfl fun a hk => ?_
    refine ls hk rfl rfl rfl (e_pickT hk rfl rfl _) fun a hk => ?_
    refine lnil (hK3 _ _ ?_)
    refine cdT hk rfl ?_
    refine wp_seq_k fun K4 hK4 => ?_
    refine wp_region_lit ?_
    refine ls hk rfl rfl rfl (e_buildS (cells := #[I 0, I 0, .slice none 0 0]) (pl := #[(0, 1), (1, 1), (2, 1)]) hk rfl zr74 Tryd.underlying74 (fun w => by kernel_rfl) rfl _) fun a hk => ?_
    refine la hk rfl (a_storeB (cs' := #[I 0, I 0, .slice none 0 0]) hk rfl rfl (by simp [Value.oneCell']) sz74 h_b6 rfl fun a w hk W => ?_)
    have hB := W.below hB hg_b6
    have h_b6 := W.at_
    clear W
    refine ls hk rfl rfl rfl (e_assign hk rfl _) fun a hk => ?_
    refine lnil (hK4 _ _ ?_)
    refine wp_ret ?_
    simp only [then_ret]
    exact retA1 hk rfl rfl rfl h_b6 Tryd.underlying74 rfl sz74 ⟨by rw [provR, if_pos (by omega)]; exact ⟨none, 0, rfl, rdg_nil, fun b o e => by cases e⟩, hB⟩
  · refine start 33 Tryd.func49 rfl rfl rfl fun a hk => ?_
    have hB : Ext w0 w0 := Below.refl _ _
    refine wp_seq_k fun K1 hK1 => ?_
    refine wp_region_lit ?_
    refine la hk rfl (a_alloc hk rfl zr74 fun a w b6 hk G => ?_)
    have hg_b6 : w0.heap.size ≤ b6 := Nat.le_trans hB.size G.ge
    have hB := ext_trans hB G.ext
    have h_b6 := G.at_
    clear G
    refine ls hk rfl rfl rfl (e_assign hk rfl _) fun a hk => ?_
    refine lnil (hK1 _ _ ?_)
    refine wp_seq_k fun K2 hK2 => ?_
    refine wp_seq_k fun K3 hK3 => ?_
    refine wp_region_lit ?_
    refine ls hk rfl rfl rfl (e_move hk rfl _) fun a hk => ?_
    refine ls hk rfl rfl rfl (e_lss (b := false) hk rfl rfl (decide_eq_false (by omega)) _) fun a hk => ?_
    refine ls hk rfl rfl rfl (e_move hk rfl _) fun a hk => ?_
    refine ls hk rfl rfl rfl (e_move hk rfl _) fun a hk => ?_
    refine ls hk rfl rfl rfl (e_move hk rfl _) fun a hk => ?_
    refine ls hk rfl rfl rfl (e_geq (b := false) hk rfl rfl (decide_eq_false (by omega)) _) fun a hk => ?_
    refine ls hk rfl rfl rfl (e_pickF hk rfl rfl _) fun a hk => ?_
    refine ls hk rfl rfl rfl (e_move hk rfl _) fun a hk => ?_
    refine ls hk rfl rfl rfl (e_move hk rfl _) fun a hk => ?_
    refine ls hk rfl rfl rfl (e_move hk rfl _) fun a hk => ?_
    refine ls hk rfl rfl rfl (e_lenS hk rfl Tryd.underlying27 _) fun a hk => ?_
    refine ls hk rfl rfl rfl (e_gtr (b := true) hk rfl rfl (decide_eq_true (by omega)) _) fun a hk => ?_
    refine ls hk rfl rfl rfl (e_pickF hk rfl rfl _) fun a hk => ?_
    refine lnil (hK3 _ _ ?_)
    refine cdT hk rfl ?_
    refine wp_seq_k fun K4 hK4 => ?_
    refine wp_region_lit ?_
    refine ls hk rfl rfl rfl (e_buildS (cells := #[I 0, I 0, .slice none 0 0]) (pl := #[(0, 1), (1, 1), (2, 1)]) hk rfl zr74 Tryd.underlying74 (fun w => by kernel_rfl) rfl _) fun a hk => ?_
    refine la hk rfl (a_storeB (cs' := #[I 0, I 0, .slice none 0 0]) hk rfl rfl (by simp [Value.oneCell']) sz74 h_b6 rfl fun a w hk W => ?_)
    have hB := W.below hB hg_b6
    have h_b6 := W.at_
    clear W
    refine ls hk rfl rfl rfl (e_assign hk rfl _) fun a hk => ?_
    refine lnil (hK4 _ _ ?_)
    refine wp_ret ?_
    simp only [then_ret]
    exact retA1 hk rfl rfl rfl h_b6 Tryd.underlying74 rfl sz74 ⟨by rw [provR, if_pos (by omega)]; exact ⟨none, 0, rfl, rdg_nil, fun b o e => by cases e⟩, hB⟩
  · obtain ⟨f, rfl⟩ : ∃ k : Nat, f₀ = k := ⟨f₀.toNat, by omega⟩
    obtain ⟨t, rfl⟩ : ∃ k : Nat, t₀ = k := ⟨t₀.toNat, by omega⟩
    have hlr := len_restS f t 0 xs.length (by omega)
    refine start 33 Tryd.func49 rfl rfl rfl fun a hk => ?_
    have hB : Ext w0 w0 := Below.refl _ _
    refine wp_seq_k fun K1 hK1 => ?_
    refine wp_region_lit ?_
    refine la hk rfl (a_alloc hk rfl zr74 fun a w b6 hk G => ?_)
    have hg_b6 : w0.heap.size ≤ b6 := Nat.le_trans hB.size G.ge
    have hB := ext_trans hB G.ext
    have h_b6 := G.at_
    clear G
    refine ls hk rfl rfl rfl (e_assign hk rfl _) fun a hk => ?_
    refine lnil (hK1 _ _ ?_)
    refine wp_seq_k fun K2 hK2 => ?_
    refine wp_seq_k fun K3 hK3 => ?_
    refine wp_region_lit ?_
    refine ls hk rfl rfl rfl (e_move hk rfl _) fun a hk => ?_
    refine ls hk rfl rfl rfl (e_lss (b := false) hk rfl rfl (decide_eq_false (by omega)) _) fun a hk => ?_
    refine ls hk rfl rfl rfl (e_move hk rfl _) fun a hk => ?_
    refine ls hk rfl rfl rfl (e_move hk rfl _) fun a hk => ?_
    refine ls hk rfl rfl rfl (e_move hk rfl _) fun a hk => ?_
    refine ls hk rfl rfl rfl (e_geq (b := false) hk rfl rfl (decide_eq_false (by omega)) _) fun a hk => ?_
    refine ls hk rfl rfl rfl (e_pickF hk rfl rfl _) fun a hk => ?_
    refine ls hk rfl rfl rfl (e_move hk rfl _) fun a hk => ?_
    refine ls hk rfl rfl rfl (e_move hk rfl _) fun a hk => ?_
    refine ls hk rfl rfl rfl (e_move hk rfl _) fun a hk => ?_
    refine ls hk rfl rfl rfl (e_lenS hk rfl Tryd.underlying27 _) fun a hk => ?_
    refine ls hk rfl rfl rfl (e_gtr (b := false) hk rfl rfl (decide_eq_false (by omega)) _) fun a hk => ?_
    refine ls hk rfl rfl rfl (e_pickF hk rfl rfl _) fun a hk => ?_
    refine lnil (hK3 _ _ ?_)
    refine cdF hk rfl ?_
    refine wp_skip (hK2 _ _ ?_)
    refine wp_seq_k fun K4 hK4 => ?_
    refine wp_region_lit ?_
    refine ls hk rfl rfl rfl (e_move hk rfl _) fun a hk => ?_
    refine ls hk rfl rfl rfl (e_lenS hk rfl Tryd.underlying27 _) fun a hk => ?_
    refine ls hk rfl rfl rfl (e_move hk rfl _) fun a hk => ?_
    refine ls hk rfl rfl rfl (e_move hk rfl _) fun a hk => ?_
    refine ls hk rfl rfl rfl (e_move hk rfl _) fun a hk => ?_
    refine ls hk rfl rfl rfl (e_lenS hk rfl Tryd.underlying27 _) fun a hk => ?_
    refine ls hk rfl rfl rfl (e_move hk rfl _) fun a hk => ?_
    refine ls hk rfl rfl rfl (e_move hk rfl _) fun a hk => ?_
    refine la hk rfl (a_call hk rfl rfl (c_fn hk rfl ok101) (c101 f t _ 0 xs.length _ rfl (by omega) (by omega)) ?_)
    rintro e w ⟨v1, rfl, hown1, hE⟩
    refine ⟨_, rfl, fun a hk => ?_⟩
    have h_b6 := ext_at hE h_b6
    have hB := ext_trans hB hE
    obtain ⟨ad1, c1, rfl, _, hR1⟩ := Rd.of_own hown1
    clear hE
    have hlt6 := heap_lt h_b6
    refine la hk rfl (a_call hk rfl rfl (c_fn hk rfl ok100) (c100 xs hL (restS f t 0 xs.length) (stops_ok _ _ (by omega)) ad ad1 c c1 _ (Rd.ext hR hB) hR1 (by omega) (hG.ext hB)) ?_)
    rintro e w ⟨v2, rfl, hown2, hE⟩
    refine ⟨_, rfl, fun a hk => ?_⟩
    have h_b6 := ext_at hE h_b6
    have hB := ext_trans hB hE
    obtain ⟨ad2, c2, rfl, hRg⟩ := rdg_own hown2 (rootsOf_16 _ _)
    clear hE
    refine ls hk rfl rfl rfl (e_buildS (cells := #[I xs.length, I f, .slice ad2 (rootsOf xs (restS f t 0 xs.length)).length c2]) (pl := #[(0, 1), (1, 1), (2, 1)]) hk rfl zr74 Tryd.underlying74 (fun w => by kernel_rfl) rfl _) fun a hk => ?_
    refine la hk rfl (a_storeB (cs' := #[I xs.length, I f, .slice ad2 (rootsOf xs (restS f t 0 xs.length)).length c2]) hk rfl rfl (by simp [Value.oneCell']) sz74 h_b6 rfl fun a w hk W => ?_)
    have hsz6 := W.size
    have hRg : Rdg w ad2 _ c2 _ := ⟨rd_wrote hRg.1 W (fun bp op e => by subst e; have h1 := (hown2.lt bp rfl).1; have h2 := hlt6; omega), hRg.2⟩
    have hB := W.below hB hg_b6
    have h_b6 := W.at_
    clear W
    refine ls hk rfl rfl rfl (e_assign hk rfl _) fun a hk => ?_
    refine lnil (hK4 _ _ ?_)
    refine wp_ret ?_
    exact retA1 hk rfl rfl rfl h_b6 Tryd.underlying74 rfl sz74 ⟨by rw [provR, if_neg (by omega)]; exact ⟨ad2, c2, rfl, hRg, fun b o e => by subst e; have h := (hown2.lt b rfl).2; omega⟩, hB⟩

set_option maxRecDepth 4000 in
set_option maxHeartbeats 1000000 in
theorem c51 (xs : List (List UInt8)) (hL : Lv xs) (ad : Option Addr) (c : Nat) (n₀ : Int) (w0 : World) (hR : Rs w0 ad xs.length c xs) (hG : GR w0) :
    Calls Tryd.prog 51 #[.slice ad xs.length c, I n₀] w0 fun e w' => LRes (longR xs n₀) e w' ∧ Ext w0 w' := by
  have hL1 := hL.1
  rcases (by omega : n₀ < 0 ∨ (0 ≤ n₀ ∧ n₀ > xs.length) ∨ (0 ≤ n₀ ∧ n₀ ≤ xs.length ∧ xs.length = 0) ∨ (0 ≤ n₀ ∧ n₀ ≤ xs.length ∧ 0 < xs.length)) with hc | hc | hc | hc
  · refine start 25 Tryd.func51 rfl rfl rfl fun a hk => ?_
    have hB : Ext w0 w0 := Below.refl _ _
    refine wp_seq_k fun K1 hK1 => ?_
    refine wp_region_lit ?_
    refine ls hk rfl rfl rfl (e_assign hk rfl _) fun a hk => ?_
    refine ls hk rfl rfl rfl (e_assign hk rfl _) fun a hk => ?_
    refine lnil (hK1 _ _ ?_)
    refine wp_seq_k fun K2 hK2 => ?_
    refine wp_seq_k fun K3 hK3 => ?_
    refine wp_region_lit ?_
    refine ls hk rfl rfl rfl (e_move hk rfl _) fun a hk => ?_
    refine ls hk rfl rfl rfl (e_lss (b := true) hk rfl rfl (decide_eq_true (by omega)) _) fun a hk => ?_
    refine ls hk rfl rfl rfl (e_move hk rfl _) fun a hk => ?_
    refine lno hk rfl rfl rfl fun a hk => ?_
    refine lno hk rfl rfl rfl fun a hk => ?_
    refine lno hk rfl rfl rfl fun a hk => ?_
    refine lno hk rfl rfl rfl fun a hk => ?_
    refine ls hk rfl rfl rfl (e_pickT hk rfl rfl _) fun a hk => ?_
    refine lnil (hK3 _ _ ?_)
    refine cdT hk rfl ?_
    refine wp_seq_k fun K4 hK4 => ?_
    refine wp_region_lit ?_
    refine ls hk rfl rfl rfl (e_assign hk rfl _) fun a hk => ?_
    refine ls hk rfl rfl rfl (e_assign hk rfl _) fun a hk => ?_
    refine lnil (hK4 _ _ ?_)
    refine wp_ret ?_
    simp only [then_ret]
    exact ret2 hk rfl rfl rfl ⟨by rw [longR, if_pos (by omega)]; exact ⟨none, 0, rfl, rdg_nil, fun b o e => by cases e⟩, hB⟩
  · refine start 25 Tryd.func51 rfl rfl rfl fun a hk => ?_
    have hB : Ext w0 w0 := Below.refl _ _
    refine wp_seq_k fun K1 hK1 => ?_
    refine wp_region_lit ?_
    refine ls hk rfl rfl rfl (e_assign hk rfl _) fun a hk => ?_
    refine ls hk rfl rfl rfl (e_assign hk rfl _) fun a hk => ?_
    refine lnil (hK1 _ _ ?_)
    refine wp_seq_k fun K2 hK2 => ?_
    refine wp_seq_k fun K3 hK3 => ?_
    refine wp_region_lit ?_
    refine ls hk rfl rfl rfl (e_move hk rfl _) fun a hk => ?_
    refine ls hk rfl rfl rfl (e_lss (b := false) hk rfl rfl (decide_eq_false (by omega)) _) fun a hk => ?_
    refine ls hk rfl rfl rfl (e_move hk rfl _) fun a hk => ?_
    refine ls hk rfl rfl rfl (e_move hk rfl _) fun a hk => ?_
    refine ls hk rfl rfl rfl (e_move hk rfl _) fun a hk => ?_
    refine ls hk rfl rfl rfl (e_lenS hk rfl Tryd.underlying27 _) fun a hk => ?_
    refine ls hk rfl rfl rfl (e_gtr (b := true) hk rfl rfl (decide_eq_true (by omega)) _) fun a hk => ?_
    refine ls hk rfl rfl rfl (e_pickF hk rfl rfl _) fun a hk => ?_
    refine lnil (hK3 _ _ ?_)
    refine cdT hk rfl ?_
    refine wp_seq_k fun K4 hK4 => ?_
    refine wp_region_lit ?_
    refine ls hk rfl rfl rfl (e_assign hk rfl _) fun a hk => ?_
    refine ls hk rfl rfl rfl (e_assign hk rfl _) fun a hk => ?_
    refine lnil (hK4 _ _ ?_)
    refine wp_ret ?_
    simp only [then_ret]
    exact ret2 hk rfl rfl rfl ⟨by rw [longR, if_pos (by omega)]; exact ⟨none, 0, rfl, rdg_nil, fun b o e => by cases e⟩, hB⟩
  · refine start 25 Tryd.func51 rfl rfl rfl fun a hk => ?_
    have hB : Ext w0 w0 := Below.refl _ _
    refine wp_seq_k fun K1 hK1 => ?_
    refine wp_region_lit ?_
    refine ls hk rfl rfl rfl (e_assign hk rfl _) fun a hk => ?_
    refine ls hk rfl rfl rfl (e_assign hk rfl _) fun a hk => ?_
    refine lnil (hK1 _ _ ?_)
    refine wp_seq_k fun K2 hK2 => ?_
    refine wp_seq_k fun K3 hK3 => ?_
    refine wp_region_lit ?_
    refine ls hk rfl rfl rfl (e_move hk rfl _) fun a hk => ?_
    refine ls hk rfl rfl rfl (e_lss (b := false) hk rfl rfl (decide_eq_false (by omega)) _) fun a hk => ?_
    refine ls hk rfl rfl rfl (e_move hk rfl _) fun a hk => ?_
    refine ls hk rfl rfl rfl (e_move hk rfl _) fun a hk => ?_
    refine ls hk rfl rfl rfl (e_move hk rfl _) fun a hk => ?_
    refine ls hk rfl rfl rfl (e_lenS hk rfl Tryd.underlying27 _) fun a hk => ?_
    refine ls hk rfl rfl rfl (e_gtr (b := false) hk rfl rfl (decide_eq_false (by omega)) _) fun a hk => ?_
    refine ls hk rfl rfl rfl (e_pickF hk rfl rfl _) fun a hk => ?_
    refine lnil (hK3 _ _ ?_)
    refine cdF hk rfl ?_
    refine wp_skip (hK2 _ _ ?_)
    refine wp_seq_k fun K4 hK4 => ?_
    refine wp_seq_k fun K5 hK5 => ?_
    refine wp_region_lit ?_
    refine ls hk rfl rfl rfl (e_move hk rfl _) fun a hk => ?_
    refine ls hk rfl rfl rfl (e_lenS hk rfl Tryd.underlying27 _) fun a hk => ?_
    refine ls hk rfl rfl rfl (e_eql (b := true) hk rfl rfl (decide_eq_true (by omega)) _) fun a hk => ?_
    refine lnil (hK5 _ _ ?_)
    refine cdT hk rfl ?_
    refine wp_seq_k fun K6 hK6 => ?_
    refine wp_region_lit ?_
    refine la hk rfl (a_call hk rfl rfl (c_fn hk rfl ok47) (c47 0 [] none 0 _ rfl ⟨by decide, by simp⟩ rd_none (hG.ext hB)) ?_)
    rintro e w ⟨rfl, hE⟩
    refine ⟨_, rfl, fun a hk => ?_⟩
    have hB := ext_trans hB hE
    rw [rootS_nil] at hk
    clear hE
    refine la hk rfl (a_lit (cells := ((ofD 2 []).map B).toArray) (sz := 16) (by_ := 16) hk rfl rfl Tryd.underlying69 el44 (by decide) (by decide) (lit44 _ rfl _ (by simp [*])) (by simp [*]) fun a w bl hk G => ?_)
    have hg_bl : w0.heap.size ≤ bl := Nat.le_trans hB.size G.ge
    have hB := ext_trans hB G.ext
    have h_bl := G.at_
    clear G
    refine ls hk rfl rfl rfl (e_assign hk rfl _) fun a hk => ?_
    refine ls hk rfl rfl rfl (e_assign hk rfl _) fun a hk => ?_
    refine lnil (hK6 _ _ ?_)
    refine wp_ret ?_
    simp only [then_ret]
    exact ret2 hk rfl rfl rfl ⟨by rw [longR, if_neg (by omega), if_pos (by omega)]; exact ⟨_, _, rfl, rdg_lit h_bl (by simp), fun b o e => by cases e; exact heap_lt h_bl⟩, hB⟩
  · obtain ⟨n, rfl⟩ : ∃ k : Nat, n₀ = k := ⟨n₀.toNat, by omega⟩
    have hls : (stepsS n 0 xs.length).length ≤ _ := stops_len _ 0 xs.length (by omega)
    refine start 25 Tryd.func51 rfl rfl rfl fun a hk => ?_
    have hB : Ext w0 w0 := Below.refl _ _
    refine wp_seq_k fun K1 hK1 => ?_
    refine wp_region_lit ?_
    refine ls hk rfl rfl rfl (e_assign hk rfl _) fun a hk => ?_
    refine ls hk rfl rfl rfl (e_assign hk rfl _) fun a hk => ?_
    refine lnil (hK1 _ _ ?_)
    refine wp_seq_k fun K2 hK2 => ?_
    refine wp_seq_k fun K3 hK3 => ?_
    refine wp_region_lit ?_
    refine ls hk rfl rfl rfl (e_move hk rfl _) fun a hk => ?_
    refine ls hk rfl rfl rfl (e_lss (b := false) hk rfl rfl (decide_eq_false (by omega)) _) fun a hk => ?_
    refine ls hk rfl rfl rfl (e_move hk rfl _) fun a hk => ?_
    refine ls hk rfl rfl rfl (e_move hk rfl _) fun a hk => ?_
    refine ls hk rfl rfl rfl (e_move hk rfl _) fun a hk => ?_
    refine ls hk rfl rfl rfl (e_lenS hk rfl Tryd.underlying27 _) fun a hk => ?_
    refine ls hk rfl rfl rfl (e_gtr (b := false) hk rfl rfl (decide_eq_false (by omega)) _) fun a hk => ?_
    refine ls hk rfl rfl rfl (e_pickF hk rfl rfl _) fun a hk => ?_
    refine lnil (hK3 _ _ ?_)
    refine cdF hk rfl ?_
    refine wp_skip (hK2 _ _ ?_)
    refine wp_seq_k fun K4 hK4 => ?_
    refine wp_seq_k fun K5 hK5 => ?_
    refine wp_region_lit ?_
    refine ls hk rfl rfl rfl (e_move hk rfl _) fun a hk => ?_
    refine ls hk rfl rfl rfl (e_lenS hk rfl Tryd.underlying27 _) fun a hk => ?_
    refine ls hk rfl rfl rfl (e_eql (b := false) hk rfl rfl (decide_eq_false (by omega)) _) fun a hk => ?_
    refine lnil (hK5 _ _ ?_)
    refine cdF hk rfl ?_
    refine wp_skip (hK4 _ _ ?_)
    refine wp_seq_k fun K6 hK6 => ?_
    refine wp_region_lit ?_
    refine ls hk rfl rfl rfl (e_move hk rfl _) fun a hk => ?_
    refine ls hk rfl rfl rfl (e_move hk rfl _) fun a hk => ?_
    refine ls hk rfl rfl rfl (e_lenS hk rfl Tryd.underlying27 _) fun a hk => ?_
    refine ls hk rfl rfl rfl (e_move hk rfl _) fun a hk => ?_
    refine la hk rfl (a_call hk rfl rfl (c_fn hk rfl ok104) (c104 n _ 0 xs.length _ rfl (by omega) (by omega)) ?_)
    rintro e w ⟨v1, rfl, hown1, hE⟩
    refine ⟨_, rfl, fun a hk => ?_⟩
    have hB := ext_trans hB hE
    obtain ⟨ad1, c1, rfl, _, hR1⟩ := Rd.of_own hown1
    clear hE
    refine la hk rfl (a_call hk rfl rfl (c_fn hk rfl ok100) (c100 xs hL (stepsS n 0 xs.length) (stops_ok _ _ (by omega)) ad ad1 c c1 _ (Rd.ext hR hB) hR1 (by omega) (hG.ext hB)) ?_)
    rintro e w ⟨v2, rfl, hown2, hE⟩
    refine ⟨_, rfl, fun a hk => ?_⟩
    have hB := ext_trans hB hE
    obtain ⟨ad2, c2, rfl, hRg⟩ := rdg_own hown2 (rootsOf_16 _ _)
    clear hE
    refine ls hk rfl rfl rfl (e_assign hk rfl _) fun a hk => ?_
    refine ls hk rfl rfl rfl (e_assign hk rfl _) fun a hk => ?_
    refine lnil (hK6 _ _ ?_)
    refine wp_ret ?_
    exact ret2 hk rfl rfl rfl ⟨by rw [longR, if_neg (by omega), if_neg (by omega)]; exact ⟨ad2, c2, rfl, hRg, fun b o e => by subst e; exact (hown2.lt b rfl).2⟩, hB⟩

set_option maxRecDepth 4000 in
set_option maxHeartbeats 1000000 in
theorem c111 (st : Nat → Nat → Bool) (R : List (Nat × Nat)) (l xs : List (List UInt8)) (hL : Lv xs) (f : Nat) (hst1 : ∀ a, st a (a + 1) = false → f ≤ a ∧ a - f < xs.length) (hlen : R.length = l.length) (hRn : R.length ≤ 1073741824) (adR adl ad : Option Addr) (cR cl c : Nat) : ∀ n (a₀ b₀ : Nat) (P Q : List (Nat × Nat)) (w0 : World), b₀ - a₀ = n → a₀ < b₀ → b₀ ≤ 1073741824 → At st R P Q a₀ b₀ →
    Rdp w0 adR R.length cR R → Rdg w0 adl l.length cl l → Rs w0 ad xs.length c xs → GR w0 →
    Calls Tryd.prog 111 #[I a₀, I b₀, .slice adR R.length cR, .slice adl l.length cl, .slice ad xs.length c, I f] w0 fun e w' => e = .returned (D (chkS st (fun a => leafS (xs.getD (a - f) [])) l a₀ b₀ P.length).1) ∧ Ext w0 w' := by
  intro n
  induction n using Nat.strongRecOn with
  | _ n ih =>
  intro a₀ b₀ P Q w0 hn hab hle hAt hRR hRl hR hG
  have hL1 := hL.1
  rcases (by cases st a₀ b₀ <;> simp <;> omega : st a₀ b₀ = true ∨ (st a₀ b₀ = false ∧ b₀ - a₀ = 1) ∨ (st a₀ b₀ = false ∧ ¬ b₀ - a₀ = 1)) with hs | ⟨hs, hc⟩ | ⟨hs, hc⟩
  · have hfs := hAt.stop hs
    have hpl := hAt.len hs
    obtain ⟨bd, od, rfl, hrg, hd16⟩ := hRl.get P.length (by omega)
    refine start 59 Tryd.func111 rfl rfl rfl fun a hk => ?_
    have hB : Ext w0 w0 := Below.refl _ _
    refine wp_seq_k fun K1 hK1 => ?_
    refine wp_region_lit ?_
    refine la hk rfl (a_alloc hk rfl zr44 fun a w b12 hk G => ?_)
    have hg_b12 : w0.heap.size ≤ b12 := Nat.le_trans hB.size G.ge
    have hB := ext_trans hB G.ext
    have h_b12 := G.at_
    clear G
    refine lnil (hK1 _ _ ?_)
    refine wp_seq_k fun K2 hK2 => ?_
    refine wp_region_lit ?_
    refine ls hk rfl rfl rfl (e_move hk rfl _) fun a hk => ?_
    refine ls hk rfl rfl rfl (e_move hk rfl _) fun a hk => ?_
    refine ls hk rfl rfl rfl (e_move hk rfl _) fun a hk => ?_
    refine la hk rfl (a_call hk rfl rfl (c_fn hk rfl ok130) (c130 R adR cR a₀ b₀ _ (Rd.ext hRR hB) (by omega)) ?_)
    rintro e w ⟨rfl, hE⟩
    rw [hfs]
    refine ⟨I (P.length : Nat), rfl, fun a hk => ?_⟩
    have h_b12 := ext_at hE h_b12
    have hB := ext_trans hB hE
    clear hE
    refine ls hk rfl rfl rfl (e_assign hk rfl _) fun a hk => ?_
    refine lnil (hK2 _ _ ?_)
    refine wp_seq_k fun K3 hK3 => ?_
    refine wp_seq_k fun K4 hK4 => ?_
    refine wp_region_lit ?_
    refine ls hk rfl rfl rfl (e_move hk rfl _) fun a hk => ?_
    refine ls hk rfl rfl rfl (e_geq (b := true) hk rfl rfl (decide_eq_true (by omega)) _) fun a hk => ?_
    refine lnil (hK4 _ _ ?_)
    refine cdT hk rfl ?_
    refine wp_seq_k fun K5 hK5 => ?_
    refine wp_region_lit ?_
    refine ls hk rfl rfl rfl (e_move hk rfl _) fun a hk => ?_
    refine ls hk rfl rfl rfl (e_move hk rfl _) fun a hk => ?_
    refine ls hk rfl rfl rfl (e_idxSn P.length hk rfl rfl Tryd.underlying69 sz44 rfl (by omega) _) fun a hk => ?_
    refine ls hk rfl rfl rfl (r_ldR44 hk rfl (range_ext hB hrg) hd16) fun a hk => ?_
    refine la hk rfl (a_st44 hk rfl rfl hd16 h_b12 rfl fun a w hk W => ?_)
    have hB := W.below hB hg_b12
    have h_b12 := W.at_
    clear W
    refine lnil (hK5 _ _ ?_)
    refine wp_ret ?_
    simp only [then_ret]
    exact ret44 hk rfl rfl h_b12 hd16 ⟨by rw [chk_stop hs, getD_zD (by omega)], hB⟩
  · have hfs := hAt.go hab hs
    have hb1 : b₀ = a₀ + 1 := by omega
    have ⟨hfa, hfl⟩ := hst1 a₀ (by rw [← hb1]; exact hs)
    obtain ⟨br, orr, rfl, hcell⟩ := rs_at hR (a₀ - f) hfl
    have hll := lv_at hL (a₀ - f) hfl
    refine start 59 Tryd.func111 rfl rfl rfl fun a hk => ?_
    have hB : Ext w0 w0 := Below.refl _ _
    refine wp_seq_k fun K1 hK1 => ?_
    refine wp_region_lit ?_
    refine la hk rfl (a_alloc hk rfl zr44 fun a w b12 hk G => ?_)
    have hg_b12 : w0.heap.size ≤ b12 := Nat.le_trans hB.size G.ge
    have hB := ext_trans hB G.ext
    have h_b12 := G.at_
    clear G
    refine lnil (hK1 _ _ ?_)
    refine wp_seq_k fun K2 hK2 => ?_
    refine wp_region_lit ?_
    refine ls hk rfl rfl rfl (e_move hk rfl _) fun a hk => ?_
    refine ls hk rfl rfl rfl (e_move hk rfl _) fun a hk => ?_
    refine ls hk rfl rfl rfl (e_move hk rfl _) fun a hk => ?_
    refine la hk rfl (a_call hk rfl rfl (c_fn hk rfl ok130) (c130 R adR cR a₀ b₀ _ (Rd.ext hRR hB) (by omega)) ?_)
    rintro e w ⟨rfl, hE⟩
    rw [hfs]
    refine ⟨I (-1), rfl, fun a hk => ?_⟩
    have h_b12 := ext_at hE h_b12
    have hB := ext_trans hB hE
    clear hE
    refine ls hk rfl rfl rfl (e_assign hk rfl _) fun a hk => ?_
    refine lnil (hK2 _ _ ?_)
    refine wp_seq_k fun K3 hK3 => ?_
    refine wp_seq_k fun K4 hK4 => ?_
    refine wp_region_lit ?_
    refine ls hk rfl rfl rfl (e_move hk rfl _) fun a hk => ?_
    refine ls hk rfl rfl rfl (e_geq (b := false) hk rfl rfl (decide_eq_false (by omega)) _) fun a hk => ?_
    refine lnil (hK4 _ _ ?_)
    refine cdF hk rfl ?_
    refine wp_skip (hK3 _ _ ?_)
    refine wp_seq_k fun K5 hK5 => ?_
    refine wp_seq_k fun K6 hK6 => ?_
    refine wp_region_lit ?_
    refine ls hk rfl rfl rfl (e_move hk rfl _) fun a hk => ?_
    refine ls hk rfl rfl rfl (e_move hk rfl _) fun a hk => ?_
    refine ls hk rfl rfl rfl (e_sub (q := ((b₀ - a₀ : Nat) : Int)) hk rfl rfl (by rw [i64 (by omega) (by omega)]; omega) _) fun a hk => ?_
    refine ls hk rfl rfl rfl (e_eql (b := true) hk rfl rfl (decide_eq_true (by omega)) _) fun a hk => ?_
    refine lnil (hK6 _ _ ?_)
    refine cdT hk rfl ?_
    refine wp_seq_k fun K7 hK7 => ?_
    refine wp_region_lit ?_
    refine ls hk rfl rfl rfl (e_move hk rfl _) fun a hk => ?_
    refine ls hk rfl rfl rfl (e_move hk rfl _) fun a hk => ?_
    refine ls hk rfl rfl rfl (e_move hk rfl _) fun a hk => ?_
    refine ls hk rfl rfl rfl (e_sub (q := ((a₀ - f : Nat) : Int)) hk rfl rfl (by rw [i64 (by omega) (by omega)]; omega) _) fun a hk => ?_
    refine ls hk rfl rfl rfl (e_idxS1 (a₀ - f) hk rfl rfl Tryd.underlying27 sz9 rfl hfl _) fun a hk => ?_
    refine ls hk rfl rfl rfl (r_load1 hk rfl Tryd.underlying9 rfl (ext_cell hB hcell)) fun a hk => ?_
    refine la hk rfl (a_call hk rfl rfl (c_fn hk rfl ok94) (c94 (xs.getD (a₀ - f) []) _ (hG.ext hB) hll) ?_)
    rintro e w ⟨rfl, hE⟩
    refine ⟨_, rfl, fun a hk => ?_⟩
    have h_b12 := ext_at hE h_b12
    have hB := ext_trans hB hE
    clear hE
    refine la hk rfl (a_st44 (l := leafS (xs.getD (a₀ - f) [])) hk rfl rfl (by simp) h_b12 rfl fun a w hk W => ?_)
    have hB := W.below hB hg_b12
    have h_b12 := W.at_
    clear W
    refine lnil (hK7 _ _ ?_)
    refine wp_ret ?_
    simp only [then_ret]
    exact ret44 (l := leafS (xs.getD (a₀ - f) [])) hk rfl rfl h_b12 (by simp) ⟨by rw [chk_one hs (by omega)], hB⟩
  · have hfs := hAt.go hab hs
    have h2 : 2 ≤ b₀ - a₀ := by omega
    refine start 59 Tryd.func111 rfl rfl rfl fun a hk => ?_
    have hB : Ext w0 w0 := Below.refl _ _
    refine wp_seq_k fun K1 hK1 => ?_
    refine wp_region_lit ?_
    refine la hk rfl (a_alloc hk rfl zr44 fun a w b12 hk G => ?_)
    have hg_b12 : w0.heap.size ≤ b12 := Nat.le_trans hB.size G.ge
    have hB := ext_trans hB G.ext
    have h_b12 := G.at_
    clear G
    refine lnil (hK1 _ _ ?_)
    refine wp_seq_k fun K2 hK2 => ?_
    refine wp_region_lit ?_
    refine ls hk rfl rfl rfl (e_move hk rfl _) fun a hk => ?_
    refine ls hk rfl rfl rfl (e_move hk rfl _) fun a hk => ?_
    refine ls hk rfl rfl rfl (e_move hk rfl _) fun a hk => ?_
    refine la hk rfl (a_call hk rfl rfl (c_fn hk rfl ok130) (c130 R adR cR a₀ b₀ _ (Rd.ext hRR hB) (by omega)) ?_)
    rintro e w ⟨rfl, hE⟩
    rw [hfs]
    refine ⟨I (-1), rfl, fun a hk => ?_⟩
    have h_b12 := ext_at hE h_b12
    have hB := ext_trans hB hE
    clear hE
    refine ls hk rfl rfl rfl (e_assign hk rfl _) fun a hk => ?_
    refine lnil (hK2 _ _ ?_)
    refine wp_seq_k fun K3 hK3 => ?_
    refine wp_seq_k fun K4 hK4 => ?_
    refine wp_region_lit ?_
    refine ls hk rfl rfl rfl (e_move hk rfl _) fun a hk => ?_
    refine ls hk rfl rfl rfl (e_geq (b := false) hk rfl rfl (decide_eq_false (by omega)) _) fun a hk => ?_
    refine lnil (hK4 _ _ ?_)
    refine cdF hk rfl ?_
    refine wp_skip (hK3 _ _ ?_)
    refine wp_seq_k fun K5 hK5 => ?_
    refine wp_seq_k fun K6 hK6 => ?_
    refine wp_region_lit ?_
    refine ls hk rfl rfl rfl (e_move hk rfl _) fun a hk => ?_
    refine ls hk rfl rfl rfl (e_move hk rfl _) fun a hk => ?_
    refine ls hk rfl rfl rfl (e_sub (q := ((b₀ - a₀ : Nat) : Int)) hk rfl rfl (by rw [i64 (by omega) (by omega)]; omega) _) fun a hk => ?_
    refine ls hk rfl rfl rfl (e_eql (b := false) hk rfl rfl (decide_eq_false (by omega)) _) fun a hk => ?_
    refine lnil (hK6 _ _ ?_)
    refine cdF hk rfl ?_
    refine wp_skip (hK5 _ _ ?_)
    refine wp_seq_k fun K7 hK7 => ?_
    refine wp_region_lit ?_
    refine ls hk rfl rfl rfl (e_move hk rfl _) fun a hk => ?_
    refine ls hk rfl rfl rfl (e_move hk rfl _) fun a hk => ?_
    refine ls hk rfl rfl rfl (e_sub (q := ((b₀ - a₀ : Nat) : Int)) hk rfl rfl (by rw [i64 (by omega) (by omega)]; omega) _) fun a hk => ?_
    refine la hk rfl (a_call hk rfl rfl (c_fn hk rfl ok95) (c95 (b₀ - a₀) _ (by omega)) ?_)
    rintro e w ⟨rfl, hE⟩
    refine ⟨_, rfl, fun a hk => ?_⟩
    have h_b12 := ext_at hE h_b12
    have hB := ext_trans hB hE
    have hhp := hlf_pos (b₀ - a₀)
    have hhl := hlf_lt h2
    have hcnt := chk_count st (fun a => leafS (xs.getD (a - f) [])) l a₀ (a₀ + hlf (b₀ - a₀)) (by omega) P.length
    clear hE
    refine ls hk rfl rfl rfl (e_assign hk rfl _) fun a hk => ?_
    refine lnil (hK7 _ _ ?_)
    refine wp_seq_k fun K8 hK8 => ?_
    refine wp_region_lit ?_
    refine ls hk rfl rfl rfl (e_move hk rfl _) fun a hk => ?_
    refine ls hk rfl rfl rfl (e_move hk rfl _) fun a hk => ?_
    refine ls hk rfl rfl rfl (e_move hk rfl _) fun a hk => ?_
    refine ls hk rfl rfl rfl (e_add (q := ((a₀ + hlf (b₀ - a₀) : Nat) : Int)) hk rfl rfl (by rw [i64 (by omega) (by omega)]; omega) _) fun a hk => ?_
    refine ls hk rfl rfl rfl (e_move hk rfl _) fun a hk => ?_
    refine ls hk rfl rfl rfl (e_move hk rfl _) fun a hk => ?_
    refine ls hk rfl rfl rfl (e_move hk rfl _) fun a hk => ?_
    refine ls hk rfl rfl rfl (e_move hk rfl _) fun a hk => ?_
    refine la hk rfl (a_call hk rfl rfl (c_fn hk rfl ok111) (ih _ (by omega) a₀ (a₀ + hlf (b₀ - a₀)) P _ _ rfl (by omega) (by omega) (hAt.left hs h2) (Rd.ext hRR hB) (hRl.ext hB) (Rd.ext hR hB) (hG.ext hB)) ?_)
    rintro e w ⟨rfl, hE⟩
    refine ⟨_, rfl, fun a hk => ?_⟩
    have h_b12 := ext_at hE h_b12
    have hB := ext_trans hB hE
    clear hE
    refine ls hk rfl rfl rfl (e_move hk rfl _) fun a hk => ?_
    refine ls hk rfl rfl rfl (e_move hk rfl _) fun a hk => ?_
    refine ls hk rfl rfl rfl (e_add (q := ((a₀ + hlf (b₀ - a₀) : Nat) : Int)) hk rfl rfl (by rw [i64 (by omega) (by omega)]; omega) _) fun a hk => ?_
    refine ls hk rfl rfl rfl (e_move hk rfl _) fun a hk => ?_
    refine ls hk rfl rfl rfl (e_move hk rfl _) fun a hk => ?_
    refine ls hk rfl rfl rfl (e_move hk rfl _) fun a hk => ?_
    refine ls hk rfl rfl rfl (e_move hk rfl _) fun a hk => ?_
    refine ls hk rfl rfl rfl (e_move hk rfl _) fun a hk => ?_
    refine la hk rfl (a_call hk rfl rfl (c_fn hk rfl ok111) (ih _ (by omega) (a₀ + hlf (b₀ - a₀)) b₀ (P ++ stopsS st a₀ (a₀ + hlf (b₀ - a₀))) Q _ rfl (by omega) (by omega) (hAt.right hs h2) (Rd.ext hRR hB) (hRl.ext hB) (Rd.ext hR hB) (hG.ext hB)) ?_)
    rintro e w ⟨rfl, hE⟩
    refine ⟨_, rfl, fun a hk => ?_⟩
    have h_b12 := ext_at hE h_b12
    have hB := ext_trans hB hE
    rw [List.length_append, ← hcnt] at hk
    clear hE
    refine la hk rfl (a_call hk rfl rfl (c_fn hk rfl ok96) (c96 _ _ _ (hG.ext hB) (chk_len st (fun a => leafS (xs.getD (a - f) [])) (fun _ => length_leafS _) l hRl.2 a₀ (a₀ + hlf (b₀ - a₀)) (by omega) _) (chk_len st (fun a => leafS (xs.getD (a - f) [])) (fun _ => length_leafS _) l hRl.2 (a₀ + hlf (b₀ - a₀)) b₀ (by omega) _)) ?_)
    rintro e w ⟨rfl, hE⟩
    refine ⟨_, rfl, fun a hk => ?_⟩
    have h_b12 := ext_at hE h_b12
    have hB := ext_trans hB hE
    clear hE
    refine la hk rfl (a_st44 (l := nodeS _ _) hk rfl rfl (by simp) h_b12 rfl fun a w hk W => ?_)
    have hB := W.below hB hg_b12
    have h_b12 := W.at_
    clear W
    refine lnil (hK8 _ _ ?_)
    refine wp_ret ?_
    exact ret44 (l := nodeS _ _) hk rfl rfl h_b12 (by simp) ⟨by rw [chk_more hs h2], hB⟩

set_option maxRecDepth 4000 in
set_option maxHeartbeats 1000000 in
theorem c115 (n₀ : Nat) (R : List (Nat × Nat)) (l : List (List UInt8)) (hlen : R.length = l.length) (hRn : R.length ≤ 1073741824) (adR adl : Option Addr) (cR cl : Nat) : ∀ n (a₀ b₀ : Nat) (P Q : List (Nat × Nat)) (w0 : World), b₀ - a₀ = n → a₀ < n₀ → n₀ ≤ b₀ → b₀ ≤ 1073741824 → At (farB n₀) R P Q a₀ b₀ →
    Rdp w0 adR R.length cR R → Rdg w0 adl l.length cl l → GR w0 →
    Calls Tryd.prog 115 #[I a₀, I b₀, I n₀, .slice adR R.length cR, .slice adl l.length cl] w0 fun e w' => e = .returned (D (oldC (farB n₀) l n₀ a₀ b₀ P.length)) ∧ Ext w0 w' := by
  intro n
  induction n using Nat.strongRecOn with
  | _ n ih =>
  intro a₀ b₀ P Q w0 hn han hnb hle hAt hRR hRl hG
  have hab : a₀ < b₀ := by omega
  rcases (by cases farB n₀ a₀ b₀ <;> simp <;> omega : farB n₀ a₀ b₀ = true ∨ (farB n₀ a₀ b₀ = false ∧ n₀ ≤ a₀ + hlf (b₀ - a₀)) ∨ (farB n₀ a₀ b₀ = false ∧ ¬ n₀ ≤ a₀ + hlf (b₀ - a₀))) with hs | ⟨hs, hc⟩ | ⟨hs, hc⟩
  · have hfs := hAt.stop hs
    have hpl := hAt.len hs
    obtain ⟨bd, od, rfl, hrg, hd16⟩ := hRl.get P.length (by omega)
    refine start 56 Tryd.func115 rfl rfl rfl fun a hk => ?_
    have hB : Ext w0 w0 := Below.refl _ _
    refine wp_seq_k fun K1 hK1 => ?_
    refine wp_region_lit ?_
    refine la hk rfl (a_alloc hk rfl zr44 fun a w b10 hk G => ?_)
    have hg_b10 : w0.heap.size ≤ b10 := Nat.le_trans hB.size G.ge
    have hB := ext_trans hB G.ext
    have h_b10 := G.at_
    clear G
    refine lnil (hK1 _ _ ?_)
    refine wp_seq_k fun K2 hK2 => ?_
    refine wp_region_lit ?_
    refine ls hk rfl rfl rfl (e_move hk rfl _) fun a hk => ?_
    refine ls hk rfl rfl rfl (e_move hk rfl _) fun a hk => ?_
    refine ls hk rfl rfl rfl (e_move hk rfl _) fun a hk => ?_
    refine la hk rfl (a_call hk rfl rfl (c_fn hk rfl ok130) (c130 R adR cR a₀ b₀ _ (Rd.ext hRR hB) (by omega)) ?_)
    rintro e w ⟨rfl, hE⟩
    rw [hfs]
    refine ⟨I (P.length : Nat), rfl, fun a hk => ?_⟩
    have h_b10 := ext_at hE h_b10
    have hB := ext_trans hB hE
    clear hE
    refine ls hk rfl rfl rfl (e_assign hk rfl _) fun a hk => ?_
    refine lnil (hK2 _ _ ?_)
    refine wp_seq_k fun K3 hK3 => ?_
    refine wp_seq_k fun K4 hK4 => ?_
    refine wp_region_lit ?_
    refine ls hk rfl rfl rfl (e_move hk rfl _) fun a hk => ?_
    refine ls hk rfl rfl rfl (e_geq (b := true) hk rfl rfl (decide_eq_true (by omega)) _) fun a hk => ?_
    refine lnil (hK4 _ _ ?_)
    refine cdT hk rfl ?_
    refine wp_seq_k fun K5 hK5 => ?_
    refine wp_region_lit ?_
    refine ls hk rfl rfl rfl (e_move hk rfl _) fun a hk => ?_
    refine ls hk rfl rfl rfl (e_move hk rfl _) fun a hk => ?_
    refine ls hk rfl rfl rfl (e_idxSn P.length hk rfl rfl Tryd.underlying69 sz44 rfl (by omega) _) fun a hk => ?_
    refine ls hk rfl rfl rfl (r_ldR44 hk rfl (range_ext hB hrg) hd16) fun a hk => ?_
    refine la hk rfl (a_st44 hk rfl rfl hd16 h_b10 rfl fun a w hk W => ?_)
    have hB := W.below hB hg_b10
    have h_b10 := W.at_
    clear W
    refine lnil (hK5 _ _ ?_)
    refine wp_ret ?_
    simp only [then_ret]
    exact ret44 hk rfl rfl h_b10 hd16 ⟨by rw [old_stop hs, getD_zD (by omega)], hB⟩
  · have hfs := hAt.go hab hs
    have h2 : 2 ≤ b₀ - a₀ := by unfold farB at hs; simp at hs; omega
    have hhp := hlf_pos (b₀ - a₀)
    have hhl := hlf_lt h2
    refine start 56 Tryd.func115 rfl rfl rfl fun a hk => ?_
    have hB : Ext w0 w0 := Below.refl _ _
    refine wp_seq_k fun K1 hK1 => ?_
    refine wp_region_lit ?_
    refine la hk rfl (a_alloc hk rfl zr44 fun a w b10 hk G => ?_)
    have hg_b10 : w0.heap.size ≤ b10 := Nat.le_trans hB.size G.ge
    have hB := ext_trans hB G.ext
    have h_b10 := G.at_
    clear G
    refine lnil (hK1 _ _ ?_)
    refine wp_seq_k fun K2 hK2 => ?_
    refine wp_region_lit ?_
    refine ls hk rfl rfl rfl (e_move hk rfl _) fun a hk => ?_
    refine ls hk rfl rfl rfl (e_move hk rfl _) fun a hk => ?_
    refine ls hk rfl rfl rfl (e_move hk rfl _) fun a hk => ?_
    refine la hk rfl (a_call hk rfl rfl (c_fn hk rfl ok130) (c130 R adR cR a₀ b₀ _ (Rd.ext hRR hB) (by omega)) ?_)
    rintro e w ⟨rfl, hE⟩
    rw [hfs]
    refine ⟨I (-1), rfl, fun a hk => ?_⟩
    have h_b10 := ext_at hE h_b10
    have hB := ext_trans hB hE
    clear hE
    refine ls hk rfl rfl rfl (e_assign hk rfl _) fun a hk => ?_
    refine lnil (hK2 _ _ ?_)
    refine wp_seq_k fun K3 hK3 => ?_
    refine wp_seq_k fun K4 hK4 => ?_
    refine wp_region_lit ?_
    refine ls hk rfl rfl rfl (e_move hk rfl _) fun a hk => ?_
    refine ls hk rfl rfl rfl (e_geq (b := false) hk rfl rfl (decide_eq_false (by omega)) _) fun a hk => ?_
    refine lnil (hK4 _ _ ?_)
    refine cdF hk rfl ?_
    refine wp_skip (hK3 _ _ ?_)
    refine wp_seq_k fun K5 hK5 => ?_
    refine wp_region_lit ?_
    refine ls hk rfl rfl rfl (e_move hk rfl _) fun a hk => ?_
    refine ls hk rfl rfl rfl (e_move hk rfl _) fun a hk => ?_
    refine ls hk rfl rfl rfl (e_sub (q := ((b₀ - a₀ : Nat) : Int)) hk rfl rfl (by rw [i64 (by omega) (by omega)]; omega) _) fun a hk => ?_
    refine la hk rfl (a_call hk rfl rfl (c_fn hk rfl ok95) (c95 (b₀ - a₀) _ (by omega)) ?_)
    rintro e w ⟨rfl, hE⟩
    refine ⟨_, rfl, fun a hk => ?_⟩
    have h_b10 := ext_at hE h_b10
    have hB := ext_trans hB hE
    clear hE
    refine ls hk rfl rfl rfl (e_assign hk rfl _) fun a hk => ?_
    refine lnil (hK5 _ _ ?_)
    refine wp_seq_k fun K6 hK6 => ?_
    refine wp_seq_k fun K7 hK7 => ?_
    refine wp_region_lit ?_
    refine ls hk rfl rfl rfl (e_move hk rfl _) fun a hk => ?_
    refine ls hk rfl rfl rfl (e_move hk rfl _) fun a hk => ?_
    refine ls hk rfl rfl rfl (e_move hk rfl _) fun a hk => ?_
    refine ls hk rfl rfl rfl (e_add (q := ((a₀ + hlf (b₀ - a₀) : Nat) : Int)) hk rfl rfl (by rw [i64 (by omega) (by omega)]; omega) _) fun a hk => ?_
    refine ls hk rfl rfl rfl (e_leq (b := true) hk rfl rfl (decide_eq_true (by omega)) _) fun a hk => ?_
    refine lnil (hK7 _ _ ?_)
    refine cdT hk rfl ?_
    refine wp_seq_k fun K8 hK8 => ?_
    refine wp_region_lit ?_
    refine ls hk rfl rfl rfl (e_move hk rfl _) fun a hk => ?_
    refine ls hk rfl rfl rfl (e_move hk rfl _) fun a hk => ?_
    refine ls hk rfl rfl rfl (e_move hk rfl _) fun a hk => ?_
    refine ls hk rfl rfl rfl (e_add (q := ((a₀ + hlf (b₀ - a₀) : Nat) : Int)) hk rfl rfl (by rw [i64 (by omega) (by omega)]; omega) _) fun a hk => ?_
    refine ls hk rfl rfl rfl (e_move hk rfl _) fun a hk => ?_
    refine ls hk rfl rfl rfl (e_move hk rfl _) fun a hk => ?_
    refine ls hk rfl rfl rfl (e_move hk rfl _) fun a hk => ?_
    refine la hk rfl (a_call hk rfl rfl (c_fn hk rfl ok115) (ih _ (by omega) a₀ (a₀ + hlf (b₀ - a₀)) P _ _ rfl (by omega) hc (by omega) (hAt.left hs h2) (Rd.ext hRR hB) (hRl.ext hB) (hG.ext hB)) ?_)
    rintro e w ⟨rfl, hE⟩
    refine ⟨_, rfl, fun a hk => ?_⟩
    have h_b10 := ext_at hE h_b10
    have hB := ext_trans hB hE
    clear hE
    refine la hk rfl (a_st44 (l := oldC _ _ _ _ _ _) hk rfl rfl (old_len l n₀ hRl.2 _ _ _ (by omega) _) h_b10 rfl fun a w hk W => ?_)
    have hB := W.below hB hg_b10
    have h_b10 := W.at_
    clear W
    refine lnil (hK8 _ _ ?_)
    refine wp_ret ?_
    simp only [then_ret]
    exact ret44 hk rfl rfl h_b10 (old_len l n₀ hRl.2 _ _ _ (by omega) _) ⟨by rw [old_left hs h2 hc], hB⟩
  · have hfs := hAt.go hab hs
    have h2 : 2 ≤ b₀ - a₀ := by unfold farB at hs; simp at hs; omega
    have hhp := hlf_pos (b₀ - a₀)
    have hhl := hlf_lt h2
    refine start 56 Tryd.func115 rfl rfl rfl fun a hk => ?_
    have hB : Ext w0 w0 := Below.refl _ _
    refine wp_seq_k fun K1 hK1 => ?_
    refine wp_region_lit ?_
    refine la hk rfl (a_alloc hk rfl zr44 fun a w b10 hk G => ?_)
    have hg_b10 : w0.heap.size ≤ b10 := Nat.le_trans hB.size G.ge
    have hB := ext_trans hB G.ext
    have h_b10 := G.at_
    clear G
    refine lnil (hK1 _ _ ?_)
    refine wp_seq_k fun K2 hK2 => ?_
    refine wp_region_lit ?_
    refine ls hk rfl rfl rfl (e_move hk rfl _) fun a hk => ?_
    refine ls hk rfl rfl rfl (e_move hk rfl _) fun a hk => ?_
    refine ls hk rfl rfl rfl (e_move hk rfl _) fun a hk => ?_
    refine la hk rfl (a_call hk rfl rfl (c_fn hk rfl ok130) (c130 R adR cR a₀ b₀ _ (Rd.ext hRR hB) (by omega)) ?_)
    rintro e w ⟨rfl, hE⟩
    rw [hfs]
    refine ⟨I (-1), rfl, fun a hk => ?_⟩
    have h_b10 := ext_at hE h_b10
    have hB := ext_trans hB hE
    clear hE
    refine ls hk rfl rfl rfl (e_assign hk rfl _) fun a hk => ?_
    refine lnil (hK2 _ _ ?_)
    refine wp_seq_k fun K3 hK3 => ?_
    refine wp_seq_k fun K4 hK4 => ?_
    refine wp_region_lit ?_
    refine ls hk rfl rfl rfl (e_move hk rfl _) fun a hk => ?_
    refine ls hk rfl rfl rfl (e_geq (b := false) hk rfl rfl (decide_eq_false (by omega)) _) fun a hk => ?_
    refine lnil (hK4 _ _ ?_)
    refine cdF hk rfl ?_
    refine wp_skip (hK3 _ _ ?_)
    refine wp_seq_k fun K5 hK5 => ?_
    refine wp_region_lit ?_
    refine ls hk rfl rfl rfl (e_move hk rfl _) fun a hk => ?_
    refine ls hk rfl rfl rfl (e_move hk rfl _) fun a hk => ?_
    refine ls hk rfl rfl rfl (e_sub (q := ((b₀ - a₀ : Nat) : Int)) hk rfl rfl (by rw [i64 (by omega) (by omega)]; omega) _) fun a hk => ?_
    refine la hk rfl (a_call hk rfl rfl (c_fn hk rfl ok95) (c95 (b₀ - a₀) _ (by omega)) ?_)
    rintro e w ⟨rfl, hE⟩
    refine ⟨_, rfl, fun a hk => ?_⟩
    have h_b10 := ext_at hE h_b10
    have hB := ext_trans hB hE
    clear hE
    refine ls hk rfl rfl rfl (e_assign hk rfl _) fun a hk => ?_
    refine lnil (hK5 _ _ ?_)
    refine wp_seq_k fun K6 hK6 => ?_
    refine wp_seq_k fun K7 hK7 => ?_
    refine wp_region_lit ?_
    refine ls hk rfl rfl rfl (e_move hk rfl _) fun a hk => ?_
    refine ls hk rfl rfl rfl (e_move hk rfl _) fun a hk => ?_
    refine ls hk rfl rfl rfl (e_move hk rfl _) fun a hk => ?_
    refine ls hk rfl rfl rfl (e_add (q := ((a₀ + hlf (b₀ - a₀) : Nat) : Int)) hk rfl rfl (by rw [i64 (by omega) (by omega)]; omega) _) fun a hk => ?_
    refine ls hk rfl rfl rfl (e_leq (b := false) hk rfl rfl (decide_eq_false (by omega)) _) fun a hk => ?_
    refine lnil (hK7 _ _ ?_)
    refine cdF hk rfl ?_
    refine wp_skip (hK6 _ _ ?_)
    refine wp_seq_k fun K8 hK8 => ?_
    refine wp_region_lit ?_
    refine ls hk rfl rfl rfl (e_move hk rfl _) fun a hk => ?_
    refine ls hk rfl rfl rfl (e_move hk rfl _) fun a hk => ?_
    refine ls hk rfl rfl rfl (e_move hk rfl _) fun a hk => ?_
    refine ls hk rfl rfl rfl (e_add (q := ((a₀ + hlf (b₀ - a₀) : Nat) : Int)) hk rfl rfl (by rw [i64 (by omega) (by omega)]; omega) _) fun a hk => ?_
    refine ls hk rfl rfl rfl (e_move hk rfl _) fun a hk => ?_
    refine ls hk rfl rfl rfl (e_move hk rfl _) fun a hk => ?_
    refine la hk rfl (a_call hk rfl rfl (c_fn hk rfl ok111) (c111 (farB n₀) R l [] ⟨by decide, by simp⟩ 0 (fun a h => absurd h (by unfold farB; simp; omega)) hlen hRn adR adl none cR cl 0 _ a₀ (a₀ + hlf (b₀ - a₀)) P _ _ rfl (by omega) (by omega) (hAt.left hs h2) (Rd.ext hRR hB) (hRl.ext hB) rd_none (hG.ext hB)) ?_)
    rintro e w ⟨rfl, hE⟩
    refine ⟨_, rfl, fun a hk => ?_⟩
    have h_b10 := ext_at hE h_b10
    have hB := ext_trans hB hE
    rw [chk_lf _ (fun _ => zD) l (fun a h => absurd h (by unfold farB; simp; omega)) a₀ (a₀ + hlf (b₀ - a₀)) (by omega)] at hk
    have hcnt := chk_count (farB n₀) (fun _ => zD) l a₀ (a₀ + hlf (b₀ - a₀)) (by omega) P.length
    clear hE
    refine ls hk rfl rfl rfl (e_move hk rfl _) fun a hk => ?_
    refine ls hk rfl rfl rfl (e_move hk rfl _) fun a hk => ?_
    refine ls hk rfl rfl rfl (e_add (q := ((a₀ + hlf (b₀ - a₀) : Nat) : Int)) hk rfl rfl (by rw [i64 (by omega) (by omega)]; omega) _) fun a hk => ?_
    refine ls hk rfl rfl rfl (e_move hk rfl _) fun a hk => ?_
    refine ls hk rfl rfl rfl (e_move hk rfl _) fun a hk => ?_
    refine ls hk rfl rfl rfl (e_move hk rfl _) fun a hk => ?_
    refine ls hk rfl rfl rfl (e_move hk rfl _) fun a hk => ?_
    refine la hk rfl (a_call hk rfl rfl (c_fn hk rfl ok115) (ih _ (by omega) (a₀ + hlf (b₀ - a₀)) b₀ (P ++ stopsS (farB n₀) a₀ (a₀ + hlf (b₀ - a₀))) Q _ rfl (by omega) (by omega) (by omega) (hAt.right hs h2) (Rd.ext hRR hB) (hRl.ext hB) (hG.ext hB)) ?_)
    rintro e w ⟨rfl, hE⟩
    refine ⟨_, rfl, fun a hk => ?_⟩
    have h_b10 := ext_at hE h_b10
    have hB := ext_trans hB hE
    rw [List.length_append, ← hcnt] at hk
    clear hE
    refine la hk rfl (a_call hk rfl rfl (c_fn hk rfl ok96) (c96 _ _ _ (hG.ext hB) (chk_len _ _ (fun _ => rfl) l hRl.2 _ _ (by omega) _) (old_len l n₀ hRl.2 _ _ _ (by omega) _)) ?_)
    rintro e w ⟨rfl, hE⟩
    refine ⟨_, rfl, fun a hk => ?_⟩
    have h_b10 := ext_at hE h_b10
    have hB := ext_trans hB hE
    clear hE
    refine la hk rfl (a_st44 (l := nodeS _ _) hk rfl rfl (by simp) h_b10 rfl fun a w hk W => ?_)
    have hB := W.below hB hg_b10
    have h_b10 := W.at_
    clear W
    refine lnil (hK8 _ _ ?_)
    refine wp_ret ?_
    exact ret44 (l := nodeS _ _) hk rfl rfl h_b10 (by simp) ⟨by rw [old_both hs h2 hc], hB⟩

end Go.Proofs.YtidfbboalbchiaaDoor
