/- The walks of hash.Equal, Bytes32, Text and hex. -/
import Derived.Test.YtidfbboalbchiaaDoorA8
namespace Go.Proofs.YtidfbboalbchiaaDoor
open Go Go.RowKit

theorem then_ret {K : Act → World → Prop} {Q : Exit → Act → World → Prop} {a : Act} {w : World} : Exit.then K Q .ret a w = Q .ret a w := rfl
theorem or_zero (x y : UInt8) : x ||| y = 0 ↔ x = 0 ∧ y = 0 := by
  constructor
  · intro h
    have h1 : x.toBitVec ||| y.toBitVec = 0#8 := congrArg UInt8.toBitVec h
    have h2 : x.toBitVec = 0#8 := by
      apply BitVec.eq_of_getLsbD_eq
      intro i hi
      have := congrArg (fun v => v.getLsbD i) h1
      simp at this ⊢
      exact this.1
    have h3 : y.toBitVec = 0#8 := by
      apply BitVec.eq_of_getLsbD_eq
      intro i hi
      have := congrArg (fun v => v.getLsbD i) h1
      simp at this ⊢
      exact this.2
    exact ⟨UInt8.toBitVec_inj.1 h2, UInt8.toBitVec_inj.1 h3⟩
  · rintro ⟨rfl, rfl⟩; rfl
theorem xor_zero (x y : UInt8) : x ^^^ y = 0 ↔ x = y := by
  constructor
  · intro h
    have h1 : x.toBitVec ^^^ y.toBitVec = 0#8 := congrArg UInt8.toBitVec h
    exact UInt8.toBitVec_inj.1 (BitVec.xor_eq_zero_iff.1 h1)
  · rintro rfl
    exact UInt8.xor_self
theorem take_eq_succ (s t : List UInt8) (j : Nat) (x y : UInt8) (hx : s[j]? = some x) (hy : t[j]? = some y) : s.take (j + 1) = t.take (j + 1) ↔ s.take j = t.take j ∧ x = y := by
  obtain ⟨h1, rfl⟩ := List.getElem?_eq_some_iff.1 hx
  obtain ⟨h2, rfl⟩ := List.getElem?_eq_some_iff.1 hy
  rw [List.take_add_one, List.take_add_one, List.getElem?_eq_getElem h1, List.getElem?_eq_getElem h2]
  constructor
  · intro h
    have := List.append_inj h (by simp; omega)
    exact ⟨this.1, by simpa using this.2⟩
  · rintro ⟨h, e⟩
    rw [h, e]

set_option maxRecDepth 4000 in
set_option maxHeartbeats 1000000 in
theorem c43 (s t : List UInt8) (w0 : World) (hl0 : s.length ≤ 1000000000) :
    Calls Tryd.prog 43 #[Str s, Str t] w0 fun e w' => e = .returned (.bool (decide (s = t))) ∧ Ext w0 w' := by
  refine start 29 Tryd.func43 rfl rfl rfl fun a hk => ?_
  refine wp_seq_k fun K1 hK1 => ?_
  refine wp_region_lit ?_
  refine ls hk rfl rfl rfl (e_assign hk rfl _) fun a hk => ?_
  refine lnil (hK1 _ _ ?_)
  refine wp_seq_k fun K2 hK2 => ?_
  refine wp_seq_k fun K3 hK3 => ?_
  refine wp_region_lit ?_
  refine ls hk rfl rfl rfl (e_move hk rfl _) fun a hk => ?_
  refine ls hk rfl rfl rfl (e_lenStr hk rfl Tryd.underlying9 _) fun a hk => ?_
  refine ls hk rfl rfl rfl (e_move hk rfl _) fun a hk => ?_
  refine ls hk rfl rfl rfl (e_lenStr hk rfl Tryd.underlying9 _) fun a hk => ?_
  refine ls hk rfl rfl rfl (e_neq hk rfl rfl rfl _) fun a hk => ?_
  refine lnil (hK3 _ _ ?_)
  refine cdB hk rfl (fun hb => ?_) (fun hb => ?_)
  · have hne : s ≠ t := by
      rintro rfl
      simp at hb
    refine wp_seq_k fun K4 hK4 => ?_
    refine wp_region_lit ?_
    refine ls hk rfl rfl rfl (e_assign hk rfl _) fun a hk => ?_
    refine lnil (hK4 _ _ ?_)
    refine wp_ret ?_
    simp only [then_ret]
    refine ret1 hk rfl rfl ⟨by simp [hne], Below.refl _ _⟩
  · have hl : s.length = t.length := by
      have h : (s.length : Int) = t.length := by simpa using hb
      omega
    refine wp_skip (hK2 _ _ ?_)
    refine wp_seq_k fun K5 hK5 => ?_
    refine wp_region_lit ?_
    refine ls hk rfl rfl rfl (e_assign hk rfl _) fun a hk => ?_
    refine lnil (hK5 _ _ ?_)
    refine wp_seq_k fun K6 hK6 => ?_
    refine wp_seq_k fun K7 hK7 => ?_
    refine wp_region_lit ?_
    refine ls hk rfl rfl rfl (e_move hk rfl _) fun a hk => ?_
    refine ls hk rfl rfl rfl (e_lenStr hk rfl Tryd.underlying9 _) fun a hk => ?_
    refine ls hk rfl rfl rfl (e_move hk rfl _) fun a hk => ?_
    refine lnil (hK7 _ _ ?_)
    refine wp_block ?_
    refine loopN (fun n a w => ∃ (j : Nat) (x : UInt8), n = s.length - j ∧ j ≤ s.length ∧ (x = 0 ↔ s.take j = t.take j) ∧ Kn a 29 [(0, Str s), (1, Str t), (5, B x), (13, I s.length), (14, I j)] ∧ Below w0.heap.size w0 w) (s.length) ?_ fun n a w hI => ?_
    · exact ⟨0, 0, rfl, Nat.zero_le _, by simp, hk.sub _ ⟨rfl, rfl, rfl, rfl, rfl, trivial⟩, Below.refl _ _⟩
    obtain ⟨j, x, rfl, hj, hx, hk, hB⟩ := hI
    refine wp_seq_k fun K8 hK8 => ?_
    refine wp_region_lit ?_
    refine ls hk rfl rfl rfl (e_lss hk rfl rfl rfl _) fun a hk => ?_
    refine lnil (hK8 _ _ ?_)
    refine wp_seq_k fun K9 hK9 => ?_
    refine cdB hk rfl (fun hb => ?_) (fun hb => ?_)
    · have hjl : j < s.length := by have := of_decide_eq_true hb; omega
      have hs9 : j < 9223372036854775807 := by omega
      obtain ⟨p, hp⟩ : ∃ p, s[j]? = some p := ⟨_, List.getElem?_eq_getElem hjl⟩
      obtain ⟨q, hq⟩ : ∃ q, t[j]? = some q := ⟨_, List.getElem?_eq_getElem (by omega)⟩
      refine wp_skip (hK9 _ _ ?_)
      refine wp_seq_k fun K10 hK10 => ?_
      refine wp_block ?_
      refine wp_seq_k fun K11 hK11 => ?_
      refine wp_region_lit ?_
      refine ls hk rfl rfl rfl (e_move hk rfl _) fun a hk => ?_
      refine ls hk rfl rfl rfl (e_assign hk rfl _) fun a hk => ?_
      refine lnil (hK11 _ _ ?_)
      refine wp_region_ok (fun _ => True) [0, 0, 0, 0, 0, 0, 0, 0, 0, 0] mixed ?_
      refine d0 0 hk rfl (by kernel_rfl) rfl rfl rfl rfl (fun _ => e_move hk rfl _) fun a hk => ?_
      refine d0 1 hk rfl (by kernel_rfl) rfl rfl rfl rfl (fun _ => e_move hk rfl _) fun a hk => ?_
      refine d0 2 hk rfl (by kernel_rfl) rfl rfl rfl rfl (fun _ => e_move hk rfl _) fun a hk => ?_
      refine d0 3 hk rfl (by kernel_rfl) rfl rfl rfl rfl (fun _ => e_idxStr (c := p) hk rfl rfl Tryd.underlying9 (by omega) (by simpa using hp) _) fun a hk => ?_
      refine d0 4 hk rfl (by kernel_rfl) rfl rfl rfl rfl (fun _ => e_move hk rfl _) fun a hk => ?_
      refine d0 5 hk rfl (by kernel_rfl) rfl rfl rfl rfl (fun _ => e_move hk rfl _) fun a hk => ?_
      refine d0 6 hk rfl (by kernel_rfl) rfl rfl rfl rfl (fun _ => e_idxStr (c := q) hk rfl rfl Tryd.underlying9 (by omega) (by simpa using hq) _) fun a hk => ?_
      refine d0 7 hk rfl (by kernel_rfl) rfl rfl rfl rfl (fun _ => e_xor hk rfl rfl (b_xor _ _) _) fun a hk => ?_
      refine d0 8 hk rfl (by kernel_rfl) rfl rfl rfl rfl (fun _ => e_or hk rfl rfl (b_or _ _) _) fun a hk => ?_
      refine d0 9 hk rfl (by kernel_rfl) rfl rfl rfl rfl (fun _ => e_assign hk rfl _) fun a hk => ?_
      refine okFin (by kernel_rfl) (hK10 _ _ ?_)
      refine wp_region_lit ?_
      refine ls hk rfl rfl rfl (e_add hk rfl rfl (i64 (by omega) (by omega)) _) fun a hk => ?_
      refine ls hk rfl rfl rfl (e_move hk rfl _) fun a hk => ?_
      refine lnil (show ∃ m : Nat, m < _ ∧ _ from ⟨s.length - (j + 1), by omega, j + 1, _, rfl, by omega, by rw [take_eq_succ s t j p q hp hq, or_zero, hx, xor_zero], hk.sub _ ⟨rfl, rfl, rfl, rfl, rfl, trivial⟩, hB.drew⟩)
    · have hjl : j = s.length := by have := of_decide_eq_false hb; omega
      subst hjl
      rw [List.take_length, hl, List.take_length] at hx
      refine wp_exit (hK6 _ _ ?_)
      refine wp_seq_k fun K12 hK12 => ?_
      refine wp_region_lit ?_
      refine ls hk rfl rfl rfl (e_move hk rfl _) fun a hk => ?_
      refine ls hk rfl rfl rfl (e_eql (b := decide (s = t)) hk rfl rfl (by rw [decide_eq_decide, ← hx]; exact ⟨fun h => UInt8.toNat.inj (by simpa using h), fun h => by subst h; rfl⟩) _) fun a hk => ?_
      refine ls hk rfl rfl rfl (e_assign hk rfl _) fun a hk => ?_
      refine lnil (hK12 _ _ ?_)
      refine wp_ret ?_
      refine ret1 hk rfl rfl ⟨rfl, hB⟩

set_option maxRecDepth 4000 in
set_option maxHeartbeats 1000000 in
theorem c32 (l : List UInt8) (w0 : World) (hl : l.length = 32) :
    Calls Tryd.prog 32 #[.agg (l.map B).toArray] w0 fun e w' => e = .returned (Str l) ∧ Ext w0 w' := by
  refine start 17 Tryd.func32 rfl rfl rfl fun a hk => ?_
  refine wp_seq_k fun K1 hK1 => ?_
  refine wp_region_lit ?_
  refine la hk rfl (a_box hk rfl rfl fun a w b1 hk G1 => ?_)
  refine ls hk rfl rfl rfl (e_assign hk rfl _) fun a hk => ?_
  have hB : Below w0.heap.size w0 w := G1.ext
  have h1 : w.heap[b1]? = some (.cells (l.map B).toArray 24 (0, 0)) := G1.at_
  have hg1 := G1.ge
  have hCC := hB.size
  clear G1
  refine lnil (hK1 _ _ ?_)
  refine wp_seq_k fun K2 hK2 => ?_
  refine wp_region_lit ?_
  refine ls hk rfl rfl rfl (e_assign hk rfl _) fun a hk => ?_
  refine lnil (hK2 _ _ ?_)
  refine wp_seq_k fun K3 hK3 => ?_
  refine wp_seq_k fun K4 hK4 => ?_
  refine wp_region_lit ?_
  refine ls hk rfl rfl rfl (e_assign hk rfl _) fun a hk => ?_
  refine lnil (hK4 _ _ ?_)
  refine wp_block ?_
  refine loopN (fun n a w => ∃ (j : Nat) (ad : Option Addr) (c : Nat), n = 32 - j ∧ j ≤ 32 ∧ Kn a 17 [(1, .pointer (some ⟨b1, 0, none⟩)), (3, .slice ad j c), (4, I j)] ∧ Below w0.heap.size w0 w ∧ b1 < w.heap.size ∧ w.heap[b1]? = some (.cells (l.map B).toArray 24 (0, 0)) ∧ w.ownsRow (b1 + 1) 5 1 (.slice ad j c) j ((l.take j).map B)) (32) ?_ fun n a w hI => ?_
  · exact ⟨0, none, 0, rfl, by omega, hk.sub _ ⟨rfl, rfl, rfl, trivial⟩, hB, heap_lt h1, h1, own_nil⟩
  clear hB h1 hCC
  obtain ⟨j, ad, c, rfl, hj, hk, hB, hCC, h1, hown⟩ := hI
  refine wp_seq_k fun K5 hK5 => ?_
  refine wp_seq_k fun K6 hK6 => ?_
  refine wp_region_lit ?_
  refine ls hk rfl rfl rfl (e_move hk rfl _) fun a hk => ?_
  refine ls hk rfl rfl rfl (e_lss hk rfl rfl rfl _) fun a hk => ?_
  refine lnil (hK6 _ _ ?_)
  refine cdB hk rfl (fun hb => ?_) (fun hb => ?_)
  · have hjl : j < l.length := by have := of_decide_eq_true hb; omega
    have hjn : j < 32 := by omega
    refine wp_skip (hK5 _ _ ?_)
    refine wp_seq_k fun K7 hK7 => ?_
    refine wp_block ?_
    refine wp_region_lit ?_
    refine ls hk rfl rfl rfl (e_move hk rfl _) fun a hk => ?_
    refine ls hk rfl rfl rfl (e_move hk rfl _) fun a hk => ?_
    refine ls hk rfl rfl rfl (e_idxA1 j hk rfl rfl Tryd.underlying24 sz5 rfl hjn _) fun a hk => ?_
    refine ls hk rfl rfl rfl (r_load (v := B l[j]) hk rfl Tryd.underlying5 rfl h1 (by simp [hjl])) fun a hk => ?_
    refine la hk rfl (a_lit (cells := #[B (l[j])]) (zv := .int .u8 0) (sz := 1) (by_ := 1) hk rfl rfl Tryd.underlying22 el5 (by decide) (by decide) (lit1 _ _ rfl) rfl fun a w bl hk GL => ?_)
    have hown := own_ext hown GL.ext
    have h1 := ext_at GL.ext h1
    have hB := ext_trans hB GL.ext
    have hRd := lit_byte _ GL
    have hCC := Nat.lt_of_lt_of_le hCC GL.ext.size
    clear GL
    refine la hk rfl (a_app hk rfl rfl hown rfl hRd (bytes_one _) Tryd.underlying22 el5 rfl (by decide) (by omega) (by omega) hCC fun a w v hk hown' hKp => ?_)
    have hB := kept_below hKp hB hown (Nat.le_trans hg1 (Nat.le_succ _)) hB.size
    have h1 := kept_lt hKp hown (Nat.lt_succ_self _) h1
    have hCC := Nat.lt_of_lt_of_le hCC hKp.size
    clear hown hKp hRd
    obtain ⟨ad, c, rfl, _, _⟩ := Rd.of_own hown'
    have hown : w.ownsRow (b1 + 1) 5 1 (.slice ad (j + 1) c) (j + 1) ((l.take (j + 1)).map B) := by
      rw [List.take_add_one, List.getElem?_eq_getElem hjl, List.map_append]; exact hown'
    clear hown'
    refine ls hk rfl rfl rfl (e_assign hk rfl _) fun a hk => ?_
    refine lnil (hK7 _ _ ?_)
    refine wp_region_lit ?_
    refine ls hk rfl rfl rfl (e_move hk rfl _) fun a hk => ?_
    refine ls hk rfl rfl rfl (e_add hk rfl rfl (i64 (by omega) (by omega)) _) fun a hk => ?_
    refine ls hk rfl rfl rfl (e_assign hk rfl _) fun a hk => ?_
    refine lnil (show ∃ m : Nat, m < _ ∧ _ from ⟨32 - (j + 1), by omega, j + 1, ad, c, rfl, by omega, hk.sub _ ⟨rfl, rfl, rfl, trivial⟩, hB, hCC, h1, hown⟩)
  · have hjl : j = l.length := by have := of_decide_eq_false hb; omega
    subst hjl
    rw [List.take_length] at hown
    refine wp_exit (hK3 _ _ ?_)
    refine wp_seq_k fun K8 hK8 => ?_
    obtain ⟨_, _, hv, _, hRe⟩ := Rd.of_own hown
    cases hv
    refine wp_region_lit ?_
    refine ls hk rfl rfl rfl (e_move hk rfl _) fun a hk => ?_
    refine ls hk rfl rfl rfl (e_str (bs := l) hk rfl hRe Tryd.underlying22 Tryd.underlying5 Tryd.underlying9) fun a hk => ?_
    refine ls hk rfl rfl rfl (e_assign hk rfl _) fun a hk => ?_
    refine lnil (hK8 _ _ ?_)
    refine wp_ret ?_
    exact ret1 hk rfl rfl ⟨rfl, hB⟩

set_option maxRecDepth 4000 in
set_option maxHeartbeats 1000000 in
theorem c66 (l : List UInt8) (w0 : World) (hl : l.length = 16) :
    Calls Tryd.prog 66 #[.agg (l.map B).toArray] w0 fun e w' => e = .returned (Str l) ∧ Ext w0 w' := by
  refine start 17 Tryd.func66 rfl rfl rfl fun a hk => ?_
  refine wp_seq_k fun K1 hK1 => ?_
  refine wp_region_lit ?_
  refine la hk rfl (a_box hk rfl rfl fun a w b1 hk G1 => ?_)
  refine ls hk rfl rfl rfl (e_assign hk rfl _) fun a hk => ?_
  have hB : Below w0.heap.size w0 w := G1.ext
  have h1 : w.heap[b1]? = some (.cells (l.map B).toArray 44 (0, 0)) := G1.at_
  have hg1 := G1.ge
  have hCC := hB.size
  clear G1
  refine lnil (hK1 _ _ ?_)
  refine wp_seq_k fun K2 hK2 => ?_
  refine wp_region_lit ?_
  refine ls hk rfl rfl rfl (e_assign hk rfl _) fun a hk => ?_
  refine lnil (hK2 _ _ ?_)
  refine wp_seq_k fun K3 hK3 => ?_
  refine wp_seq_k fun K4 hK4 => ?_
  refine wp_region_lit ?_
  refine ls hk rfl rfl rfl (e_assign hk rfl _) fun a hk => ?_
  refine lnil (hK4 _ _ ?_)
  refine wp_block ?_
  refine loopN (fun n a w => ∃ (j : Nat) (ad : Option Addr) (c : Nat), n = 16 - j ∧ j ≤ 16 ∧ Kn a 17 [(1, .pointer (some ⟨b1, 0, none⟩)), (3, .slice ad j c), (4, I j)] ∧ Below w0.heap.size w0 w ∧ b1 < w.heap.size ∧ w.heap[b1]? = some (.cells (l.map B).toArray 44 (0, 0)) ∧ w.ownsRow (b1 + 1) 5 1 (.slice ad j c) j ((l.take j).map B)) (16) ?_ fun n a w hI => ?_
  · exact ⟨0, none, 0, rfl, by omega, hk.sub _ ⟨rfl, rfl, rfl, trivial⟩, hB, heap_lt h1, h1, own_nil⟩
  clear hB h1 hCC
  obtain ⟨j, ad, c, rfl, hj, hk, hB, hCC, h1, hown⟩ := hI
  refine wp_seq_k fun K5 hK5 => ?_
  refine wp_seq_k fun K6 hK6 => ?_
  refine wp_region_lit ?_
  refine ls hk rfl rfl rfl (e_move hk rfl _) fun a hk => ?_
  refine ls hk rfl rfl rfl (e_lss hk rfl rfl rfl _) fun a hk => ?_
  refine lnil (hK6 _ _ ?_)
  refine cdB hk rfl (fun hb => ?_) (fun hb => ?_)
  · have hjl : j < l.length := by have := of_decide_eq_true hb; omega
    have hjn : j < 16 := by omega
    refine wp_skip (hK5 _ _ ?_)
    refine wp_seq_k fun K7 hK7 => ?_
    refine wp_block ?_
    refine wp_region_lit ?_
    refine ls hk rfl rfl rfl (e_move hk rfl _) fun a hk => ?_
    refine ls hk rfl rfl rfl (e_move hk rfl _) fun a hk => ?_
    refine ls hk rfl rfl rfl (e_idxA1 j hk rfl rfl Tryd.underlying44 sz5 rfl hjn _) fun a hk => ?_
    refine ls hk rfl rfl rfl (r_load (v := B l[j]) hk rfl Tryd.underlying5 rfl h1 (by simp [hjl])) fun a hk => ?_
    refine la hk rfl (a_lit (cells := #[B (l[j])]) (zv := .int .u8 0) (sz := 1) (by_ := 1) hk rfl rfl Tryd.underlying22 el5 (by decide) (by decide) (lit1 _ _ rfl) rfl fun a w bl hk GL => ?_)
    have hown := own_ext hown GL.ext
    have h1 := ext_at GL.ext h1
    have hB := ext_trans hB GL.ext
    have hRd := lit_byte _ GL
    have hCC := Nat.lt_of_lt_of_le hCC GL.ext.size
    clear GL
    refine la hk rfl (a_app hk rfl rfl hown rfl hRd (bytes_one _) Tryd.underlying22 el5 rfl (by decide) (by omega) (by omega) hCC fun a w v hk hown' hKp => ?_)
    have hB := kept_below hKp hB hown (Nat.le_trans hg1 (Nat.le_succ _)) hB.size
    have h1 := kept_lt hKp hown (Nat.lt_succ_self _) h1
    have hCC := Nat.lt_of_lt_of_le hCC hKp.size
    clear hown hKp hRd
    obtain ⟨ad, c, rfl, _, _⟩ := Rd.of_own hown'
    have hown : w.ownsRow (b1 + 1) 5 1 (.slice ad (j + 1) c) (j + 1) ((l.take (j + 1)).map B) := by
      rw [List.take_add_one, List.getElem?_eq_getElem hjl, List.map_append]; exact hown'
    clear hown'
    refine ls hk rfl rfl rfl (e_assign hk rfl _) fun a hk => ?_
    refine lnil (hK7 _ _ ?_)
    refine wp_region_lit ?_
    refine ls hk rfl rfl rfl (e_move hk rfl _) fun a hk => ?_
    refine ls hk rfl rfl rfl (e_add hk rfl rfl (i64 (by omega) (by omega)) _) fun a hk => ?_
    refine ls hk rfl rfl rfl (e_assign hk rfl _) fun a hk => ?_
    refine lnil (show ∃ m : Nat, m < _ ∧ _ from ⟨16 - (j + 1), by omega, j + 1, ad, c, rfl, by omega, hk.sub _ ⟨rfl, rfl, rfl, trivial⟩, hB, hCC, h1, hown⟩)
  · have hjl : j = l.length := by have := of_decide_eq_false hb; omega
    subst hjl
    rw [List.take_length] at hown
    refine wp_exit (hK3 _ _ ?_)
    refine wp_seq_k fun K8 hK8 => ?_
    obtain ⟨_, _, hv, _, hRe⟩ := Rd.of_own hown
    cases hv
    refine wp_region_lit ?_
    refine ls hk rfl rfl rfl (e_move hk rfl _) fun a hk => ?_
    refine ls hk rfl rfl rfl (e_str (bs := l) hk rfl hRe Tryd.underlying22 Tryd.underlying5 Tryd.underlying9) fun a hk => ?_
    refine ls hk rfl rfl rfl (e_assign hk rfl _) fun a hk => ?_
    refine lnil (hK8 _ _ ?_)
    refine wp_ret ?_
    exact ret1 hk rfl rfl ⟨rfl, hB⟩

def hexA : List UInt8 := [48, 49, 50, 51, 52, 53, 54, 55, 56, 57, 97, 98, 99, 100, 101, 102]
def hex2 (c : UInt8) : List UInt8 := [hexA.getD (c.toNat / 16) 0, hexA.getD (c.toNat % 16) 0]
def hexL (s : List UInt8) : List UInt8 := (s.map hex2).flatten
theorem hexA_get (n : Nat) (h : n < 16) : hexA[n]? = some (hexA.getD n 0) := by
  have : n < hexA.length := h
  simp [List.getD, List.getElem?_eq_getElem this]
theorem length_hexL (s : List UInt8) : (hexL s).length = 2 * s.length := by
  induction s with
  | nil => rfl
  | cons c r ih =>
    have e : hexL (c :: r) = hex2 c ++ hexL r := rfl
    rw [e, List.length_append, ih, show (hex2 c).length = 2 from rfl, List.length_cons]; omega
theorem hexL_take (s : List UInt8) (j : Nat) (c : UInt8) (h : s[j]? = some c) : hexL (s.take (j + 1)) = hexL (s.take j) ++ hex2 c := by
  obtain ⟨hj, rfl⟩ := List.getElem?_eq_some_iff.1 h
  unfold hexL
  rw [List.take_add_one, List.getElem?_eq_getElem hj]
  simp only [Option.toList_some, List.map_append, List.flatten_append, List.map_cons, List.map_nil, List.flatten_cons, List.flatten_nil, List.append_nil]
theorem u8_lt (c : UInt8) : c.toNat < 256 := c.toNat_lt
theorem w8_small (n : Nat) (h : n < 256) : IntKind.u8.wrap (n : Int) = (n : Int) := by rw [wrap8u]; omega

theorem lit2 (z v u : Value) (hv : v.cells = #[v]) (hu : u.cells = #[u]) : Instr.fill (fun i => some (i * 1, 1)) ((Array.range (2 * 1)).map (z.cells[· % z.cells.size]!)) [(0, v), (1, u)] = some #[v, u] := by
  have hr : Array.range 2 = #[0, 1] := by decide
  have h : ∀ p q : Value, (#[p, q] : Array Value).setIfInBounds 0 v = #[v, q] := fun _ _ => rfl
  have h' : ∀ p q : Value, (#[p, q] : Array Value).setIfInBounds 1 u = #[p, u] := fun _ _ => rfl
  simp [Instr.fill, hv, hu, hr, h, h']

set_option maxRecDepth 4000 in
set_option maxHeartbeats 1000000 in
theorem c65 (s : List UInt8) (w0 : World) (hl : s.length ≤ 1000000) :
    Calls Tryd.prog 65 #[Str s] w0 fun e w' => e = .returned (Str (hexL s)) ∧ Ext w0 w' := by
  refine start 29 Tryd.func65 rfl rfl rfl fun a hk => ?_
  refine wp_seq_k fun K1 hK1 => ?_
  refine wp_region_lit ?_
  refine ls hk rfl rfl rfl (e_assign hk rfl _) fun a hk => ?_
  refine lnil (hK1 _ _ ?_)
  refine wp_seq_k fun K2 hK2 => ?_
  refine wp_region_lit ?_
  refine ls hk rfl rfl rfl (e_assign hk rfl _) fun a hk => ?_
  refine lnil (hK2 _ _ ?_)
  refine wp_seq_k fun K3 hK3 => ?_
  refine wp_region_lit ?_
  refine ls hk rfl rfl rfl (e_assign hk rfl _) fun a hk => ?_
  refine lnil (hK3 _ _ ?_)
  refine wp_seq_k fun K4 hK4 => ?_
  refine wp_seq_k fun K5 hK5 => ?_
  refine wp_region_lit ?_
  refine ls hk rfl rfl rfl (e_assign hk rfl _) fun a hk => ?_
  refine lnil (hK5 _ _ ?_)
  refine wp_block ?_
  refine loopN (fun n a w => ∃ (j m : Nat) (ad : Option Addr) (cc : Nat), n = s.length - j ∧ j ≤ s.length ∧ m = 2 * j ∧ Kn a 29 [(0, Str s), (3, Str hexA), (4, .slice ad m cc), (5, I j)] ∧ Below w0.heap.size w0 w ∧ w0.heap.size ≤ w.heap.size ∧ w.ownsRow w0.heap.size 5 1 (.slice ad m cc) m ((hexL (s.take j)).map B)) (s.length) ?_ fun n a w hI => ?_
  · exact ⟨0, 0, none, 0, rfl, Nat.zero_le _, rfl, hk.sub _ ⟨rfl, rfl, rfl, rfl, trivial⟩, Below.refl _ _, Nat.le_refl _, own_nil⟩
  obtain ⟨j, m, ad, cc, rfl, hj, hm, hk, hB, hCC, hown⟩ := hI
  refine wp_seq_k fun K6 hK6 => ?_
  refine wp_seq_k fun K7 hK7 => ?_
  refine wp_region_lit ?_
  refine ls hk rfl rfl rfl (e_move hk rfl _) fun a hk => ?_
  refine ls hk rfl rfl rfl (e_move hk rfl _) fun a hk => ?_
  refine ls hk rfl rfl rfl (e_lenStr hk rfl Tryd.underlying9 _) fun a hk => ?_
  refine ls hk rfl rfl rfl (e_lss hk rfl rfl rfl _) fun a hk => ?_
  refine lnil (hK7 _ _ ?_)
  refine cdB hk rfl (fun hb => ?_) (fun hb => ?_)
  · have hjl : j < s.length := by have := of_decide_eq_true hb; omega
    obtain ⟨c, hc⟩ : ∃ c, s[j]? = some c := ⟨_, List.getElem?_eq_getElem hjl⟩
    have hc8 := u8_lt c
    refine wp_skip (hK6 _ _ ?_)
    refine wp_seq_k fun K8 hK8 => ?_
    refine wp_block ?_
    refine wp_region_ok (fun _ => True) [0, 0, 0, 0, 0, 0, 0, 0, 0, 0, 0, 0, 0, 2, 2, 0] mixed ?_
    have hB := hB.drew
    have hown : w.drew.ownsRow w0.heap.size 5 1 (.slice ad m cc) m ((hexL (s.take j)).map B) := own_ext hown (ext_drew _)
    have hCC : w0.heap.size ≤ w.drew.heap.size := hB.size
    refine d0 0 hk rfl (by kernel_rfl) rfl rfl rfl rfl (fun _ => e_move hk rfl _) fun a hk => ?_
    refine d0 1 hk rfl (by kernel_rfl) rfl rfl rfl rfl (fun _ => e_move hk rfl _) fun a hk => ?_
    refine d0 2 hk rfl (by kernel_rfl) rfl rfl rfl rfl (fun _ => e_move hk rfl _) fun a hk => ?_
    refine d0 3 hk rfl (by kernel_rfl) rfl rfl rfl rfl (fun _ => e_move hk rfl _) fun a hk => ?_
    refine d0 4 hk rfl (by kernel_rfl) rfl rfl rfl rfl (fun _ => e_idxStr (c := c) hk rfl rfl Tryd.underlying9 (by omega) (by simpa using hc) _) fun a hk => ?_
    refine d0 5 hk rfl (by kernel_rfl) rfl rfl rfl rfl (fun _ => e_quo (q := ((c.toNat / 16 : Nat) : Int)) hk rfl rfl (by decide) (by rw [show ((c.toNat : Int)).tdiv 16 = ((c.toNat / 16 : Nat) : Int) from i_quo c.toNat 16, w8_small _ (by omega)]) _) fun a hk => ?_
    refine d0 6 hk rfl (by kernel_rfl) rfl rfl rfl rfl (fun _ => e_idxStr (c := hexA.getD (c.toNat / 16) 0) hk rfl rfl Tryd.underlying9 (by omega) (hexA_get _ (by omega)) _) fun a hk => ?_
    refine d0 7 hk rfl (by kernel_rfl) rfl rfl rfl rfl (fun _ => e_move hk rfl _) fun a hk => ?_
    refine d0 8 hk rfl (by kernel_rfl) rfl rfl rfl rfl (fun _ => e_move hk rfl _) fun a hk => ?_
    refine d0 9 hk rfl (by kernel_rfl) rfl rfl rfl rfl (fun _ => e_move hk rfl _) fun a hk => ?_
    refine d0 10 hk rfl (by kernel_rfl) rfl rfl rfl rfl (fun _ => e_idxStr (c := c) hk rfl rfl Tryd.underlying9 (by omega) (by simpa using hc) _) fun a hk => ?_
    refine d0 11 hk rfl (by kernel_rfl) rfl rfl rfl rfl (fun _ => e_rem (q := ((c.toNat % 16 : Nat) : Int)) hk rfl rfl (by decide) (i_rem c.toNat 16) _) fun a hk => ?_
    refine d0 12 hk rfl (by kernel_rfl) rfl rfl rfl rfl (fun _ => e_idxStr (c := hexA.getD (c.toNat % 16) 0) hk rfl rfl Tryd.underlying9 (by omega) (hexA_get _ (by omega)) _) fun a hk => ?_
    refine da 13 hk rfl (by kernel_rfl) rfl rfl (a_lit (cells := #[B (hexA.getD (c.toNat / 16) 0), B (hexA.getD (c.toNat % 16) 0)]) (zv := .int .u8 0) (sz := 1) (by_ := 1) hk rfl rfl Tryd.underlying22 el5 (by decide) (by decide) (lit2 _ _ _ rfl rfl) rfl fun a w bl hk GL => ?_)
    have hB := ext_trans hB GL.ext
    have hown := own_ext hown GL.ext
    have hRd : Rd w (some ⟨bl, 0, none⟩) 2 2 1 ((hex2 c).map B) := Rd.of_block GL.at_ rfl (Nat.le_refl _) (fun i hi => by
      have hi' : i < 2 := hi
      match i, hi' with
      | 0, _ => rfl
      | 1, _ => rfl)
    have hCC := Nat.le_trans hCC GL.ext.size
    clear GL
    refine da 14 hk rfl (by kernel_rfl) rfl rfl (a_app hk rfl rfl hown rfl hRd (bytes_one _) Tryd.underlying22 el5 rfl (by decide) (by omega) (by omega) hCC fun a w v hk hown' hKp => ?_)
    have hB := kept_below hKp hB hown (Nat.le_refl _) hCC
    have hCC := Nat.le_trans hCC hKp.size
    clear hown hKp hRd
    obtain ⟨ad, cc, rfl, _, _⟩ := Rd.of_own hown'
    have hown : w.ownsRow w0.heap.size 5 1 (.slice ad (m + 2) cc) (m + 2) ((hexL (s.take (j + 1))).map B) := by
      rw [hexL_take _ _ _ hc, List.map_append]; exact hown'
    clear hown'
    refine d0 15 hk rfl (by kernel_rfl) rfl rfl rfl rfl (fun _ => e_assign hk rfl _) fun a hk => ?_
    refine okFin (by kernel_rfl) (hK8 _ _ ?_)
    refine wp_region_lit ?_
    refine ls hk rfl rfl rfl (e_move hk rfl _) fun a hk => ?_
    refine ls hk rfl rfl rfl (e_add hk rfl rfl (i64 (by omega) (by omega)) _) fun a hk => ?_
    refine ls hk rfl rfl rfl (e_assign hk rfl _) fun a hk => ?_
    refine lnil (show ∃ m : Nat, m < _ ∧ _ from ⟨s.length - (j + 1), by omega, j + 1, m + 2, ad, cc, rfl, by omega, by omega, hk.sub _ ⟨rfl, rfl, rfl, rfl, trivial⟩, hB, hCC, hown⟩)
  · have hjl : j = s.length := by have := of_decide_eq_false hb; omega
    subst hjl
    rw [List.take_length] at hown
    refine wp_exit (hK4 _ _ ?_)
    refine wp_seq_k fun K9 hK9 => ?_
    obtain ⟨_, _, hv, _, hRe⟩ := Rd.of_own hown
    cases hv
    refine wp_region_lit ?_
    refine ls hk rfl rfl rfl (e_move hk rfl _) fun a hk => ?_
    refine ls hk rfl rfl rfl (e_str (bs := hexL s) hk rfl hRe Tryd.underlying22 Tryd.underlying5 Tryd.underlying9) fun a hk => ?_
    refine ls hk rfl rfl rfl (e_assign hk rfl _) fun a hk => ?_
    refine lnil (hK9 _ _ ?_)
    refine wp_ret ?_
    exact ret1 hk rfl rfl ⟨rfl, hB⟩

end Go.Proofs.YtidfbboalbchiaaDoor
