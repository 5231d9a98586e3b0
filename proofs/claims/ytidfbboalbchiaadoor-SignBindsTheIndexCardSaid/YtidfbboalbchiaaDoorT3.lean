/- Part 3 of the texts that a claim's last texts stand on: A8, A9, Eval, EqA, A10, Up, A13, A14. Conditions: those that each theorem names. -/
import Derived.Test.YtidfbboalbchiaaDoorT2
import Derived.KernelRfl
import Derived.Test.YtidfbboalbchiaaDoorT1
import Derived.Laws.StructEq
import Derived.ProofKit
import Derived.LaidMore
import Derived.OpenShut
import Derived.Stop.Joined
import Derived.ShutString
import Derived.ChangeOld
import Derived.Below
namespace Go.Proofs.YtidfbboalbchiaaDoor
open Go Go.RowKit

theorem own_nil {w : World} {base : Nat} {e : TypeId} {sz : Nat} : w.ownsRow base e sz (.slice none 0 0) 0 [] := ⟨by simp, .inl ⟨rfl, rfl⟩⟩
/-- Bytes, the first i of them turned by x. -/
def xo (p : List UInt8) (x : UInt8) (i : Nat) : List UInt8 := (p.take i).map (· ^^^ x) ++ p.drop i
theorem xo_get (p : List UInt8) (x : UInt8) (i : Nat) (h : i < p.length) : ((xo p x i).map B).toArray[0 + i]? = some (B p[i]) := by
  simp [xo, List.getElem?_append_right, List.length_take, Nat.min_eq_left (Nat.le_of_lt h), h]
theorem xo_set (p : List UInt8) (x : UInt8) (i : Nat) (h : i < p.length) : ((xo p x i).map B).toArray.setIfInBounds (0 + i) (B (p[i] ^^^ x)) = ((xo p x (i + 1)).map B).toArray := by
  have e : xo p x i = (p.take i).map (· ^^^ x) ++ [p[i]] ++ p.drop (i + 1) := by
    rw [xo, List.drop_eq_getElem_cons h]; simp
  rw [e, Nat.zero_add, bytes_set _ _ _ _ _ (by simp; omega)]
  rw [xo, List.take_add_one, List.getElem?_eq_getElem h]
  simp only [Option.toList_some, List.map_append, List.map_cons, List.map_nil]
theorem length_xo (p : List UInt8) (x : UInt8) (i : Nat) : (xo p x i).length = p.length := by simp [xo]; omega
/-- A key, filled up and turned. -/
def fill64 (key : List UInt8) : List UInt8 := key ++ List.replicate (64 - key.length) 0
def pad64 (key : List UInt8) (x : UInt8) : List UInt8 := (fill64 key).map (· ^^^ x)
theorem length_fill64 (key : List UInt8) (h : key.length ≤ 64) : (fill64 key).length = 64 := by simp [fill64]; omega
theorem copy_fill (key : List UInt8) (h : key.length ≤ 64) (cs : Array Value) (hc : cs = (List.replicate 64 (B 0)).toArray) : (cs.toList.take 0 ++ (key.take (min key.length 64)).map B ++ cs.toList.drop (0 + min key.length 64)).toArray = ((xo (fill64 key) 0 0).map B).toArray := by
  subst hc
  rw [Nat.min_eq_left h]
  simp only [xo, fill64, List.take_zero, List.map_nil, List.nil_append, List.drop_zero, List.map_append, List.map_replicate, Nat.zero_add, List.take_length, List.drop_replicate]

theorem xo_all (p : List UInt8) (x : UInt8) (n : Nat) (h : p.length = n) : xo p x n = p.map (· ^^^ x) := by
  subst h
  simp [xo]

set_option maxRecDepth 4000 in
set_option maxHeartbeats 1000000 in
theorem c71 (x : UInt8) (key : List UInt8) (bk : Nat) (w0 : World) (hkey : w0.cell? ⟨bk, 0, none⟩ = some (Str key)) (hkl : key.length ≤ 64) :
    Calls Tryd.prog 71 #[B x, .pointer (some ⟨bk, 0, none⟩)] w0 fun e w' => e = .returned (Str (pad64 key x)) ∧ Ext w0 w' := by
  refine start 21 Tryd.func71 rfl rfl rfl fun a hk => ?_
  refine wp_seq_k fun K1 hK1 => ?_
  refine wp_region_lit ?_
  refine ls hk rfl rfl rfl (e_assign hk rfl _) fun a hk => ?_
  refine lnil (hK1 _ _ ?_)
  refine wp_seq_k fun K2 hK2 => ?_
  refine wp_region_lit ?_
  refine la hk rfl (a_alloc hk rfl zr31 fun a w b4 hk G4 => ?_)
  refine lnil (hK2 _ _ ?_)
  refine wp_seq_k fun K3 hK3 => ?_
  refine wp_region_ok (fun _ => True) [0, 1, 2] mixed ?_
  have hB := G4.ext.drew
  have h4 : w.drew.heap[b4]? = _ := G4.at_
  have hkc : w.drew.cell? ⟨bk, 0, none⟩ = some (Str key) := ext_cell hB hkey
  have hg4 := G4.ge
  refine d0 0 hk rfl (by kernel_rfl) rfl rfl rfl rfl (fun _ => e_slA hk rfl Tryd.underlying31 sz5 _) fun a hk => ?_
  refine d1 1 hk rfl (by kernel_rfl) rfl rfl rfl rfl (r_load1 (v := Str key) hk rfl Tryd.underlying9 rfl hkc) fun a hk => ?_
  refine da 2 hk rfl (by kernel_rfl) rfl rfl (a_copyStr (cs := (List.replicate 64 (B 0)).toArray) hk rfl rfl rfl Tryd.underlying22 sz5 h4 (by simp) fun a w hk W2 => ?_)
  have hB := W2.below hB hg4
  have h4 := W2.at_
  rw [copy_fill key hkl _ rfl] at h4
  rw [show xo (fill64 key) 0 0 = xo (fill64 key) x 0 by simp [xo]] at h4
  clear W2
  refine okFin (by kernel_rfl) (hK3 _ _ ?_)
  refine wp_seq_k fun K4 hK4 => ?_
  refine wp_seq_k fun K5 hK5 => ?_
  refine wp_region_lit ?_
  refine ls hk rfl rfl rfl (e_move hk rfl _) fun a hk => ?_
  refine lnil (hK5 _ _ ?_)
  refine wp_block ?_
  refine loopN (fun n a w => ∃ i : Nat, n = 64 - i ∧ i ≤ 64 ∧ Kn a 21 [(0, B x), (4, .pointer (some ⟨b4, 0, none⟩)), (9, I i)] ∧ Below w0.heap.size w0 w ∧ w.heap[b4]? = some (.cells ((xo (fill64 key) x i).map B).toArray 31 (0, 0))) (64) ?_ fun n a w hI => ?_
  · exact ⟨0, rfl, by omega, hk.sub _ ⟨rfl, rfl, rfl, trivial⟩, hB, h4⟩
  clear hB h4 hkc
  obtain ⟨i, rfl, hi, hk, hB, h4⟩ := hI
  refine wp_seq_k fun K6 hK6 => ?_
  refine wp_region_lit ?_
  refine ls hk rfl rfl rfl (e_lss hk rfl rfl rfl _) fun a hk => ?_
  refine lnil (hK6 _ _ ?_)
  refine wp_seq_k fun K7 hK7 => ?_
  refine cdB hk rfl (fun hb => ?_) (fun hb => ?_)
  · have hil : i < 64 := by have := of_decide_eq_true hb; omega
    have hif : i < (fill64 key).length := by rw [length_fill64 key hkl]; exact hil
    refine wp_skip (hK7 _ _ ?_)
    refine wp_seq_k fun K8 hK8 => ?_
    refine wp_block ?_
    refine wp_seq_k fun K9 hK9 => ?_
    refine wp_region_lit ?_
    refine ls hk rfl rfl rfl (e_move hk rfl _) fun a hk => ?_
    refine ls hk rfl rfl rfl (e_assign hk rfl _) fun a hk => ?_
    refine lnil (hK9 _ _ ?_)
    refine wp_region_lit ?_
    refine ls hk rfl rfl rfl (e_move hk rfl _) fun a hk => ?_
    refine ls hk rfl rfl rfl (e_idxA1 i hk rfl rfl Tryd.underlying31 sz5 rfl hil _) fun a hk => ?_
    refine ls hk rfl rfl rfl (r_load (v := B (fill64 key)[i]) hk rfl Tryd.underlying5 rfl h4 (xo_get _ _ _ hif)) fun a hk => ?_
    refine ls hk rfl rfl rfl (e_move hk rfl _) fun a hk => ?_
    refine ls hk rfl rfl rfl (e_xor hk rfl rfl (b_xor _ _) _) fun a hk => ?_
    refine ls hk rfl rfl rfl (e_idxA1 i hk rfl rfl Tryd.underlying31 sz5 rfl hil _) fun a hk => ?_
    refine la hk rfl (a_store hk rfl rfl rfl sz5 h4 (by simp [length_xo]; omega) fun a w hk W6 => ?_)
    have hB := W6.below hB hg4
    have h4 := W6.at_
    rw [xo_set _ _ _ hif] at h4
    clear W6
    refine lnil (hK8 _ _ ?_)
    refine wp_region_lit ?_
    refine ls hk rfl rfl rfl (e_add hk rfl rfl (i64 (by omega) (by omega)) _) fun a hk => ?_
    refine ls hk rfl rfl rfl (e_move hk rfl _) fun a hk => ?_
    refine lnil (show ∃ m : Nat, m < _ ∧ _ from ⟨64 - (i + 1), by omega, i + 1, rfl, by omega, hk.sub _ ⟨rfl, rfl, rfl, trivial⟩, hB, h4⟩)
  · have hil : i = 64 := by have := of_decide_eq_false hb; omega
    subst hil
    refine wp_exit (hK4 _ _ ?_)
    refine wp_seq_k fun K10 hK10 => ?_
    refine wp_region_lit ?_
    refine ls hk rfl rfl rfl (e_slA hk rfl Tryd.underlying31 sz5 _) fun a hk => ?_
    refine ls hk rfl rfl rfl (e_str (bs := pad64 key x) hk rfl (Rd.of_block h4 (by simp [pad64, length_fill64 key hkl]) (Nat.le_refl _) (fun i _ => by rw [xo_all _ _ _ (length_fill64 key hkl)]; simp [pad64])) Tryd.underlying22 Tryd.underlying5 Tryd.underlying9) fun a hk => ?_
    refine ls hk rfl rfl rfl (e_assign hk rfl _) fun a hk => ?_
    refine lnil (hK10 _ _ ?_)
    refine wp_ret ?_
    exact ret1 hk rfl rfl ⟨rfl, hB⟩

theorem k1_le (key : List UInt8) : (if key.length > 64 then sha key else key).length ≤ 64 := by
  split
  · rw [length_sha]; decide
  · omega
theorem length_pad64 (key : List UInt8) (x : UInt8) (h : key.length ≤ 64) : (pad64 key x).length = 64 := by rw [pad64, List.length_map, length_fill64 key h]
theorem sha_row {w : World} {b : Nat} {t : TypeId} {fr : Nat × Nat} {m : List UInt8} (h : w.heap[b]? = some (.cells ((sha m).map B).toArray t fr)) : Rd w (some ⟨b, 0, none⟩) 32 32 1 ((sha m).map B) :=
  Rd.of_block h (by simp [length_sha]) (Nat.le_refl _) fun i _ => by simp
theorem kcell {w : World} {b : Nat} {t : TypeId} {v : Value} (h : w.heap[b]? = some (.cells #[v] t (0, 0))) : w.cell? ⟨b, 0, none⟩ = some v := by
  rw [cell_of_row w b 0 _ t (0, 0) h]; rfl

set_option maxRecDepth 4000 in
set_option maxHeartbeats 1000000 in
theorem c30 (key text : List UInt8) (w0 : World) (hG : GH w0) (hkl : key.length ≤ 1000000000) (htl : text.length ≤ 1000000000) :
    Calls Tryd.prog 30 #[Str key, Str text] w0 fun e w' => e = .returned (Str (mac key text)) ∧ Ext w0 w' := by
  refine start 35 Tryd.func30 rfl rfl rfl fun a hk => ?_
  refine wp_seq_k fun K1 hK1 => ?_
  refine wp_region_lit ?_
  refine la hk rfl (a_box hk rfl rfl fun a w b2 hk G2 => ?_)
  refine ls hk rfl rfl rfl (e_assign hk rfl _) fun a hk => ?_
  have hB : Below w0.heap.size w0 w := G2.ext
  have h2 : w.heap[b2]? = some (.cells #[Str key] 9 (0, 0)) := G2.at_
  have hg2 := G2.ge
  clear G2
  refine lnil (hK1 _ _ ?_)
  refine wp_seq_k fun K2 hK2 => ?_
  have hJ2 : ∀ (a : Act) (w : World), Kn a 35 [(1, Str text), (2, .pointer (some ⟨b2, 0, none⟩))] ∧ Below w0.heap.size w0 w ∧ w.heap[b2]? = some (.cells #[Str (if key.length > 64 then sha key else key)] 9 (0, 0)) → K2 a w := by
    intro a w hJ
    refine hK2 _ _ ?_
    refine wp_seq_k fun K3 hK3 => ?_
    generalize hke : (if key.length > 64 then sha key else key) = k₁ at hJ
    have hk1 : k₁.length ≤ 64 := by rw [← hke]; exact k1_le key
    obtain ⟨hk, hB, h2⟩ := hJ
    refine wp_region_lit ?_
    refine ls hk rfl rfl rfl (e_func (us := []) (vs := [.pointer (some ⟨b2, 0, none⟩)]) hk rfl rfl _) fun a hk => ?_
    refine ls hk rfl rfl rfl (e_assign hk rfl _) fun a hk => ?_
    refine lnil (hK3 _ _ ?_)
    refine wp_seq_k fun K4 hK4 => ?_
    refine wp_region_lit ?_
    refine la hk rfl (a_call hk rfl rfl (c_fn (vs := []) hk rfl ok26) (c26 _) ?_)
    rintro e w ⟨v, rfl, hIs, hE⟩
    refine ⟨_, rfl, fun a hk => ?_⟩
    have h2 := ext_at hE h2
    have hB := ext_trans hB hE
    refine ls hk rfl rfl rfl (e_move hk rfl _) fun a hk => ?_
    refine la hk rfl (a_call hk rfl rfl (c_val (first := []) (captured := [.pointer (some ⟨b2, 0, none⟩)]) hk rfl rfl ok71) (c71 54 k₁ b2 _ (kcell h2) hk1) ?_)
    rintro e w ⟨rfl, hE⟩
    refine ⟨_, rfl, fun a hk => ?_⟩
    have h2 := ext_at hE h2
    have hB := ext_trans hB hE
    refine la hk rfl (a_call hk rfl rfl (c_fn hk rfl ok27) (c27 [] (pad64 k₁ 54) _ _ hIs (hG.ext hB) (by simp [length_pad64 _ _ hk1])) ?_)
    rintro e w ⟨v, rfl, hIs, hE⟩
    refine ⟨_, rfl, fun a hk => ?_⟩
    have h2 := ext_at hE h2
    have hB := ext_trans hB hE
    refine ls hk rfl rfl rfl (e_move hk rfl _) fun a hk => ?_
    refine la hk rfl (a_call hk rfl rfl (c_fn hk rfl ok27) (c27 _ text _ _ hIs (hG.ext hB) (by simp [length_pad64 _ _ hk1]; omega)) ?_)
    rintro e w ⟨v, rfl, hIs, hE⟩
    refine ⟨_, rfl, fun a hk => ?_⟩
    have h2 := ext_at hE h2
    have hB := ext_trans hB hE
    refine la hk rfl (a_call hk rfl rfl (c_fn hk rfl ok29) (c29 _ _ _ hIs (hG.ext hB) (by simp [length_pad64 _ _ hk1]; omega)) ?_)
    rintro e w ⟨rfl, hE⟩
    refine ⟨_, rfl, fun a hk => ?_⟩
    have h2 := ext_at hE h2
    have hB := ext_trans hB hE
    refine la hk rfl (a_alloc hk rfl zr24 fun a w b7 hk G7 => ?_)
    refine la hk rfl (a_storeB hk rfl rfl (bytes_oneA _) (by rw [sz24]; simp [length_sha]) G7.at_ (by simp [length_sha, Value.cells]) fun a w hk W5 => ?_)
    have h2 := W5.keep (G7.ne h2) (ext_at G7.ext h2)
    have hB := W5.below (ext_trans hB G7.ext) (Nat.le_trans hB.size G7.ge)
    have h7 := W5.at_
    rw [List.nil_append] at h7
    refine lnil (hK4 _ _ ?_)
    refine wp_seq_k fun K5 hK5 => ?_
    refine wp_region_ok (fun _ => True) [] mixed ?_
    have hB := hB.drew
    have h2 : w.drew.heap[b2]? = _ := h2
    have h7 : w.drew.heap[b7]? = _ := h7
    refine okFront (fun k => Nat.blt k 9) (fun d a w => ∃ v0 v1 v2 v3 v4 v5 v6 v7 v8 : Value, Kn a 35 [(25, v0), (26, v1), (27, v2), (28, v3), (29, v4), (30, v5), (31, v6), (32, v7), (8, v8), (6, .func (.func 71) #[] #[.pointer (some ⟨b2, 0, none⟩)]), (2, .pointer (some ⟨b2, 0, none⟩)), (7, .pointer (some ⟨b7, 0, none⟩))] ∧ (Below w0.heap.size w0 w) ∧ (w.heap[b2]? = some (.cells #[Str k₁] 9 (0, 0))) ∧ (w.heap[b7]? = some (.cells ((sha (pad64 k₁ 54 ++ text)).map B).toArray 24 (0, 0))) ∧ (d 0 = true → IsS [] v0) ∧ (d 1 = true → v1 = .func (.func 71) #[] #[.pointer (some ⟨b2, 0, none⟩)]) ∧ (d 2 = true → v2 = Str (pad64 k₁ 92)) ∧ (d 3 = true → IsS (pad64 k₁ 92) v3) ∧ (d 4 = true → v4 = Value.slice (some ⟨b7, 0, none⟩) 32 32) ∧ (d 5 = true → v5 = Str (sha (pad64 k₁ 54 ++ text))) ∧ (d 6 = true → IsS (pad64 k₁ 92 ++ sha (pad64 k₁ 54 ++ text)) v6) ∧ (d 7 = true → v7 = .agg ((sha (pad64 k₁ 92 ++ sha (pad64 k₁ 54 ++ text))).map B).toArray) ∧ (d 8 = true → ∃ b, v8 = .pointer (some ⟨b, 0, none⟩) ∧ w0.heap.size ≤ b ∧ ∃ cs : Array Value, cs.size = 32 ∧ w.heap[b]? = some (.cells cs 24 (0, 0)))) 1 (by kernel_rfl) (fun k hk => Nat.lt_of_lt_of_le (blt_lt hk) (by decide)) ⟨_, _, _, _, _, _, _, _, _, (((((((((hk.own 8).own 32).own 31).own 30).own 29).own 28).own 27).own 26).own 25).sub _ ⟨rfl, rfl, rfl, rfl, rfl, rfl, rfl, rfl, rfl, rfl, rfl, rfl, trivial⟩, hB, h2, h7, fun h => noF h, fun h => noF h, fun h => noF h, fun h => noF h, fun h => noF h, fun h => noF h, fun h => noF h, fun h => noF h, fun h => noF h⟩ (fun a w hJ => ?_) ?_
    · obtain ⟨v0, v1, v2, v3, v4, v5, v6, v7, v8, hk, hB, h2, h7, f0, f1, f2, f3, f4, f5, f6, f7, f8⟩ := hJ
      have p0 := f0 rfl
      have p1 := f1 rfl
      have p2 := f2 rfl
      have p3 := f3 rfl
      have p4 := f4 rfl
      have p5 := f5 rfl
      have p6 := f6 rfl
      have p7 := f7 rfl
      have p8 := f8 rfl
      subst p7
      obtain ⟨b8, rfl, hg8, z8, hz8, h8⟩ := p8
      clear p0 p1 p2 p3 p4 p5 p6
      refine da 9 hk rfl (by kernel_rfl) rfl rfl (a_storeB hk rfl rfl (bytes_oneA _) (by rw [sz24]; simp [length_sha]) h8 (by simp [length_sha, hz8]) fun a w hk W9 => ?_)
      have hB := W9.below hB hg8
      have h8 := W9.at_
      refine okFin (by kernel_rfl) (hK5 _ _ ?_)
      refine wp_seq_k fun K6 hK6 => ?_
      refine wp_region_lit ?_
      refine ls hk rfl rfl rfl (e_slA hk rfl Tryd.underlying24 sz5 _) fun a hk => ?_
      refine ls hk rfl rfl rfl (e_str (bs := sha (pad64 k₁ 92 ++ sha (pad64 k₁ 54 ++ text))) hk rfl (sha_row h8) Tryd.underlying22 Tryd.underlying5 Tryd.underlying9) fun a hk => ?_
      refine ls hk rfl rfl rfl (e_assign hk rfl _) fun a hk => ?_
      refine lnil (hK6 _ _ ?_)
      refine wp_ret ?_
      exact ret1 hk rfl rfl ⟨by rw [← hke]; rfl, hB⟩
    refine ⟨?_, ?_, ?_, ?_, ?_, ?_, ?_, ?_, ?_, ?_, trivial⟩
    · intro _ d a w hr hJ
      obtain ⟨v0, v1, v2, v3, v4, v5, v6, v7, v8, hk, hB, h2, h7, f0, f1, f2, f3, f4, f5, f6, f7, f8⟩ := hJ
      refine wa hk rfl rfl ?_
      refine a_call hk rfl rfl (c_fn (vs := []) hk rfl ok26) (c26 _) ?_
      rintro e w' ⟨v, rfl, new, hE⟩
      refine ⟨_, rfl, fun a hk => ?_⟩
      exact ⟨_, _, _, _, _, _, _, _, _, hk.sub _ ⟨rfl, rfl, rfl, rfl, rfl, rfl, rfl, rfl, rfl, rfl, rfl, rfl, trivial⟩, ext_trans hB hE, ext_at hE h2, ext_at hE h7, fun _ => new, fun h => f1 h, fun h => f2 h, fun h => f3 h, fun h => f4 h, fun h => f5 h, fun h => f6 h, fun h => f7 h, fun h => by have f := f8 h; exact by obtain ⟨b, e, g, cs, hz, h⟩ := f; exact ⟨b, e, g, cs, hz, ext_at hE h⟩⟩
    · intro _ d a w hr hJ
      obtain ⟨v0, v1, v2, v3, v4, v5, v6, v7, v8, hk, hB, h2, h7, f0, f1, f2, f3, f4, f5, f6, f7, f8⟩ := hJ
      refine wa hk rfl rfl ?_
      refine ev_act hk rfl rfl (e_move hk rfl _) fun a hk => ?_
      have new : (.func (.func 71) #[] #[.pointer (some ⟨b2, 0, none⟩)] : Value) = .func (.func 71) #[] #[.pointer (some ⟨b2, 0, none⟩)] := rfl
      exact ⟨_, _, _, _, _, _, _, _, _, hk.sub _ ⟨rfl, rfl, rfl, rfl, rfl, rfl, rfl, rfl, rfl, rfl, rfl, rfl, trivial⟩, hB, h2, h7, fun h => f0 h, fun _ => new, fun h => f2 h, fun h => f3 h, fun h => f4 h, fun h => f5 h, fun h => f6 h, fun h => f7 h, fun h => f8 h⟩
    · intro _ d a w hr hJ
      obtain ⟨v0, v1, v2, v3, v4, v5, v6, v7, v8, hk, hB, h2, h7, f0, f1, f2, f3, f4, f5, f6, f7, f8⟩ := hJ
      obtain rfl := f1 (rdy_pre hr 1 (by kernel_rfl))
      refine wa hk rfl rfl ?_
      refine a_call hk rfl rfl (c_val (first := []) (captured := [.pointer (some ⟨b2, 0, none⟩)]) hk rfl rfl ok71) (c71 92 k₁ b2 _ (kcell h2) hk1) ?_
      rintro e w' ⟨rfl, hE⟩
      refine ⟨_, rfl, fun a hk => ?_⟩
      have new : Str (pad64 k₁ 92) = Str (pad64 k₁ 92) := rfl
      have f1 : d 1 = true → (.func (.func 71) #[] #[.pointer (some ⟨b2, 0, none⟩)] : Value) = .func (.func 71) #[] #[.pointer (some ⟨b2, 0, none⟩)] := fun _ => rfl
      exact ⟨_, _, _, _, _, _, _, _, _, hk.sub _ ⟨rfl, rfl, rfl, rfl, rfl, rfl, rfl, rfl, rfl, rfl, rfl, rfl, trivial⟩, ext_trans hB hE, ext_at hE h2, ext_at hE h7, fun h => f0 h, fun h => f1 h, fun _ => new, fun h => f3 h, fun h => f4 h, fun h => f5 h, fun h => f6 h, fun h => f7 h, fun h => by have f := f8 h; exact by obtain ⟨b, e, g, cs, hz, h⟩ := f; exact ⟨b, e, g, cs, hz, ext_at hE h⟩⟩
    · intro _ d a w hr hJ
      obtain ⟨v0, v1, v2, v3, v4, v5, v6, v7, v8, hk, hB, h2, h7, f0, f1, f2, f3, f4, f5, f6, f7, f8⟩ := hJ
      obtain hIs := f0 (rdy_pre hr 0 (by kernel_rfl))
      obtain rfl := f2 (rdy_pre hr 2 (by kernel_rfl))
      refine wa hk rfl rfl ?_
      refine a_call hk rfl rfl (c_fn hk rfl ok27) (c27 [] (pad64 k₁ 92) _ _ hIs (hG.ext hB) (by simp [length_pad64 _ _ hk1])) ?_
      rintro e w' ⟨v, rfl, hIs', hE⟩
      refine ⟨_, rfl, fun a hk => ?_⟩
      have new : IsS (pad64 k₁ 92) v := hIs'
      have f2 : d 2 = true → Str (pad64 k₁ 92) = Str (pad64 k₁ 92) := fun _ => rfl
      exact ⟨_, _, _, _, _, _, _, _, _, hk.sub _ ⟨rfl, rfl, rfl, rfl, rfl, rfl, rfl, rfl, rfl, rfl, rfl, rfl, trivial⟩, ext_trans hB hE, ext_at hE h2, ext_at hE h7, fun h => f0 h, fun h => f1 h, fun h => f2 h, fun _ => new, fun h => f4 h, fun h => f5 h, fun h => f6 h, fun h => f7 h, fun h => by have f := f8 h; exact by obtain ⟨b, e, g, cs, hz, h⟩ := f; exact ⟨b, e, g, cs, hz, ext_at hE h⟩⟩
    · intro _ d a w hr hJ
      obtain ⟨v0, v1, v2, v3, v4, v5, v6, v7, v8, hk, hB, h2, h7, f0, f1, f2, f3, f4, f5, f6, f7, f8⟩ := hJ
      refine wa hk rfl rfl ?_
      refine ev_act hk rfl rfl (e_slA hk rfl Tryd.underlying24 sz5 _) fun a hk => ?_
      have new : Value.slice (some ⟨b7, 0, none⟩) 32 32 = Value.slice (some ⟨b7, 0, none⟩) 32 32 := rfl
      exact ⟨_, _, _, _, _, _, _, _, _, hk.sub _ ⟨rfl, rfl, rfl, rfl, rfl, rfl, rfl, rfl, rfl, rfl, rfl, rfl, trivial⟩, hB, h2, h7, fun h => f0 h, fun h => f1 h, fun h => f2 h, fun h => f3 h, fun _ => new, fun h => f5 h, fun h => f6 h, fun h => f7 h, fun h => f8 h⟩
    · intro _ d a w hr hJ
      obtain ⟨v0, v1, v2, v3, v4, v5, v6, v7, v8, hk, hB, h2, h7, f0, f1, f2, f3, f4, f5, f6, f7, f8⟩ := hJ
      obtain rfl := f4 (rdy_pre hr 4 (by kernel_rfl))
      refine wa hk rfl rfl ?_
      refine ev_act hk rfl rfl (e_str (bs := sha (pad64 k₁ 54 ++ text)) hk rfl (sha_row h7) Tryd.underlying22 Tryd.underlying5 Tryd.underlying9) fun a hk => ?_
      have new : Str (sha (pad64 k₁ 54 ++ text)) = Str (sha (pad64 k₁ 54 ++ text)) := rfl
      have f4 : d 4 = true → Value.slice (some ⟨b7, 0, none⟩) 32 32 = Value.slice (some ⟨b7, 0, none⟩) 32 32 := fun _ => rfl
      exact ⟨_, _, _, _, _, _, _, _, _, hk.sub _ ⟨rfl, rfl, rfl, rfl, rfl, rfl, rfl, rfl, rfl, rfl, rfl, rfl, trivial⟩, hB, h2, h7, fun h => f0 h, fun h => f1 h, fun h => f2 h, fun h => f3 h, fun h => f4 h, fun _ => new, fun h => f6 h, fun h => f7 h, fun h => f8 h⟩
    · intro _ d a w hr hJ
      obtain ⟨v0, v1, v2, v3, v4, v5, v6, v7, v8, hk, hB, h2, h7, f0, f1, f2, f3, f4, f5, f6, f7, f8⟩ := hJ
      obtain hIs := f3 (rdy_pre hr 3 (by kernel_rfl))
      obtain rfl := f5 (rdy_pre hr 5 (by kernel_rfl))
      refine wa hk rfl rfl ?_
      refine a_call hk rfl rfl (c_fn hk rfl ok27) (c27 _ (sha (pad64 k₁ 54 ++ text)) _ _ hIs (hG.ext hB) (by simp [length_pad64 _ _ hk1, length_sha])) ?_
      rintro e w' ⟨v, rfl, new, hE⟩
      refine ⟨_, rfl, fun a hk => ?_⟩
      have f5 : d 5 = true → Str (sha (pad64 k₁ 54 ++ text)) = Str (sha (pad64 k₁ 54 ++ text)) := fun _ => rfl
      exact ⟨_, _, _, _, _, _, _, _, _, hk.sub _ ⟨rfl, rfl, rfl, rfl, rfl, rfl, rfl, rfl, rfl, rfl, rfl, rfl, trivial⟩, ext_trans hB hE, ext_at hE h2, ext_at hE h7, fun h => f0 h, fun h => f1 h, fun h => f2 h, fun h => f3 h, fun h => f4 h, fun h => f5 h, fun _ => new, fun h => f7 h, fun h => by have f := f8 h; exact by obtain ⟨b, e, g, cs, hz, h⟩ := f; exact ⟨b, e, g, cs, hz, ext_at hE h⟩⟩
    · intro _ d a w hr hJ
      obtain ⟨v0, v1, v2, v3, v4, v5, v6, v7, v8, hk, hB, h2, h7, f0, f1, f2, f3, f4, f5, f6, f7, f8⟩ := hJ
      obtain hIs := f6 (rdy_pre hr 6 (by kernel_rfl))
      refine wa hk rfl rfl ?_
      refine a_call hk rfl rfl (c_fn hk rfl ok29) (c29 _ _ _ hIs (hG.ext hB) (by simp [length_pad64 _ _ hk1, length_sha])) ?_
      rintro e w' ⟨rfl, hE⟩
      refine ⟨_, rfl, fun a hk => ?_⟩
      have new : Value.agg ((sha (pad64 k₁ 92 ++ sha (pad64 k₁ 54 ++ text))).map B).toArray = Value.agg ((sha (pad64 k₁ 92 ++ sha (pad64 k₁ 54 ++ text))).map B).toArray := rfl
      exact ⟨_, _, _, _, _, _, _, _, _, hk.sub _ ⟨rfl, rfl, rfl, rfl, rfl, rfl, rfl, rfl, rfl, rfl, rfl, rfl, trivial⟩, ext_trans hB hE, ext_at hE h2, ext_at hE h7, fun h => f0 h, fun h => f1 h, fun h => f2 h, fun h => f3 h, fun h => f4 h, fun h => f5 h, fun h => f6 h, fun _ => new, fun h => by have f := f8 h; exact by obtain ⟨b, e, g, cs, hz, h⟩ := f; exact ⟨b, e, g, cs, hz, ext_at hE h⟩⟩
    · intro _ d a w hr hJ
      obtain ⟨v0, v1, v2, v3, v4, v5, v6, v7, v8, hk, hB, h2, h7, f0, f1, f2, f3, f4, f5, f6, f7, f8⟩ := hJ
      refine wa hk rfl rfl ?_
      refine a_alloc hk rfl zr24 fun a w' b8 hk G8 => ?_
      have hE := G8.ext
      have new : ∃ b, (Value.pointer (some ⟨b8, 0, none⟩)) = .pointer (some ⟨b, 0, none⟩) ∧ w0.heap.size ≤ b ∧ ∃ cs : Array Value, cs.size = 32 ∧ w'.heap[b]? = some (.cells cs 24 (0, 0)) := ⟨_, rfl, Nat.le_trans hB.size G8.ge, _, rfl, G8.at_⟩
      exact ⟨_, _, _, _, _, _, _, _, _, hk.sub _ ⟨rfl, rfl, rfl, rfl, rfl, rfl, rfl, rfl, rfl, rfl, rfl, rfl, trivial⟩, ext_trans hB hE, ext_at hE h2, ext_at hE h7, fun h => f0 h, fun h => f1 h, fun h => f2 h, fun h => f3 h, fun h => f4 h, fun h => f5 h, fun h => f6 h, fun h => f7 h, fun _ => new⟩
    · intro h; cases h
  refine wp_seq_k fun K7 hK7 => ?_
  refine wp_region_lit ?_
  refine ls hk rfl rfl rfl (r_load (v := Str key) hk rfl Tryd.underlying9 rfl h2 rfl) fun a hk => ?_
  refine ls hk rfl rfl rfl (e_lenStr hk rfl Tryd.underlying9 _) fun a hk => ?_
  refine ls hk rfl rfl rfl (e_gtr hk rfl rfl rfl _) fun a hk => ?_
  refine lnil (hK7 _ _ ?_)
  refine cdB hk rfl (fun hb => ?_) (fun hb => ?_)
  · have hlong : key.length > 64 := by have := of_decide_eq_true hb; omega
    refine wp_seq_k fun K8 hK8 => ?_
    refine wp_region_lit ?_
    refine ls hk rfl rfl rfl (r_load (v := Str key) hk rfl Tryd.underlying9 rfl h2 rfl) fun a hk => ?_
    refine la hk rfl (a_bytes hk rfl rfl Tryd.underlying9 Tryd.underlying22 Tryd.underlying5 fun a w bb cc hk hgb hE hRb => ?_)
    have h2 := ext_at hE h2
    have hB := ext_trans hB hE
    refine la hk rfl (a_call hk rfl rfl (c_fn hk rfl ok23) (c23 key _ _ _ _ hRb (hG.ext hB) (by omega)) ?_)
    rintro e w ⟨rfl, hE⟩
    refine ⟨_, rfl, fun a hk => ?_⟩
    have h2 := ext_at hE h2
    have hB := ext_trans hB hE
    refine la hk rfl (a_alloc hk rfl zr24 fun a w b5 hk G5 => ?_)
    refine la hk rfl (a_storeB hk rfl rfl (bytes_oneA _) (by rw [sz24]; simp [length_sha]) G5.at_ (by simp [length_sha, Value.cells]) fun a w hk W2 => ?_)
    have h2 := W2.keep (G5.ne h2) (ext_at G5.ext h2)
    have hB := W2.below (ext_trans hB G5.ext) (Nat.le_trans hB.size G5.ge)
    have h5 := W2.at_
    refine lnil (hK8 _ _ ?_)
    refine wp_region_lit ?_
    refine ls hk rfl rfl rfl (e_slA hk rfl Tryd.underlying24 sz5 _) fun a hk => ?_
    refine ls hk rfl rfl rfl (e_str (bs := sha key) hk rfl (sha_row h5) Tryd.underlying22 Tryd.underlying5 Tryd.underlying9) fun a hk => ?_
    refine la hk rfl (a_store hk rfl rfl rfl sz9 h2 Nat.zero_lt_one fun a w hk W3 => ?_)
    have hB := W3.below hB hg2
    have h2 : w.heap[b2]? = some (.cells #[Str (sha key)] 9 (0, 0)) := W3.at_
    refine lnil (hJ2 _ _ ⟨hk.sub _ ⟨rfl, rfl, trivial⟩, hB, by first | (rw [if_pos hlong]; exact h2) | (rw [if_neg hshort]; exact h2)⟩)
  · have hshort : ¬ key.length > 64 := by have := of_decide_eq_false hb; omega
    refine wp_skip (hJ2 _ _ ⟨hk.sub _ ⟨rfl, rfl, trivial⟩, hB, by first | (rw [if_pos hlong]; exact h2) | (rw [if_neg hshort]; exact h2)⟩)

end Go.Proofs.YtidfbboalbchiaaDoor

namespace Go.Proofs.YtidfbboalbchiaaDoor
open Go Go.RowKit

theorem then_ret {K : Act → World → Prop} {Q : Exit → Act → World → Prop} {a : Act} {w : World} : Exit.then K Q .ret a w = Q .ret a w := rfl
theorem or_zero (x y : UInt8) : x ||| y = 0 ↔ x = 0 ∧ y = 0 := by
  constructor
  · intro h
    have h1 : x.toBitVec ||| y.toBitVec = 0#8 := congrArg UInt8.toBitVec h
    have h2 : x.toBitVec = 0#8 := by
      apply BitVec.eq_of_getLsbD_eq
      intro i hi
      have := congrArg (fun v => v.getLsbD i) h1
      simp at this ⊢
      exact this.1
    have h3 : y.toBitVec = 0#8 := by
      apply BitVec.eq_of_getLsbD_eq
      intro i hi
      have := congrArg (fun v => v.getLsbD i) h1
      simp at this ⊢
      exact this.2
    exact ⟨UInt8.toBitVec_inj.1 h2, UInt8.toBitVec_inj.1 h3⟩
  · rintro ⟨rfl, rfl⟩; rfl
theorem xor_zero (x y : UInt8) : x ^^^ y = 0 ↔ x = y := by
  constructor
  · intro h
    have h1 : x.toBitVec ^^^ y.toBitVec = 0#8 := congrArg UInt8.toBitVec h
    exact UInt8.toBitVec_inj.1 (BitVec.xor_eq_zero_iff.1 h1)
  · rintro rfl
    exact UInt8.xor_self
theorem take_eq_succ (s t : List UInt8) (j : Nat) (x y : UInt8) (hx : s[j]? = some x) (hy : t[j]? = some y) : s.take (j + 1) = t.take (j + 1) ↔ s.take j = t.take j ∧ x = y := by
  obtain ⟨h1, rfl⟩ := List.getElem?_eq_some_iff.1 hx
  obtain ⟨h2, rfl⟩ := List.getElem?_eq_some_iff.1 hy
  rw [List.take_add_one, List.take_add_one, List.getElem?_eq_getElem h1, List.getElem?_eq_getElem h2]
  constructor
  · intro h
    have := List.append_inj h (by simp; omega)
    exact ⟨this.1, by simpa using this.2⟩
  · rintro ⟨h, e⟩
    rw [h, e]

set_option maxRecDepth 4000 in
set_option maxHeartbeats 1000000 in
theorem c43 (s t : List UInt8) (w0 : World) (hl0 : s.length ≤ 1000000000) :
    Calls Tryd.prog 43 #[Str s, Str t] w0 fun e w' => e = .returned (.bool (decide (s = t))) ∧ Ext w0 w' := by
  refine start 29 Tryd.func43 rfl rfl rfl fun a hk => ?_
  refine wp_seq_k fun K1 hK1 => ?_
  refine wp_region_lit ?_
  refine ls hk rfl rfl rfl (e_assign hk rfl _) fun a hk => ?_
  refine lnil (hK1 _ _ ?_)
  refine wp_seq_k fun K2 hK2 => ?_
  refine wp_seq_k fun K3 hK3 => ?_
  refine wp_region_lit ?_
  refine ls hk rfl rfl rfl (e_move hk rfl _) fun a hk => ?_
  refine ls hk rfl rfl rfl (e_lenStr hk rfl Tryd.underlying9 _) fun a hk => ?_
  refine ls hk rfl rfl rfl (e_move hk rfl _) fun a hk => ?_
  refine ls hk rfl rfl rfl (e_lenStr hk rfl Tryd.underlying9 _) fun a hk => ?_
  refine ls hk rfl rfl rfl (e_neq hk rfl rfl rfl _) fun a hk => ?_
  refine lnil (hK3 _ _ ?_)
  refine cdB hk rfl (fun hb => ?_) (fun hb => ?_)
  · have hne : s ≠ t := by
      rintro rfl
      simp at hb
    refine wp_seq_k fun K4 hK4 => ?_
    refine wp_region_lit ?_
    refine ls hk rfl rfl rfl (e_assign hk rfl _) fun a hk => ?_
    refine lnil (hK4 _ _ ?_)
    refine wp_ret ?_
    simp only [then_ret]
    refine ret1 hk rfl rfl ⟨by simp [hne], Below.refl _ _⟩
  · have hl : s.length = t.length := by
      have h : (s.length : Int) = t.length := by simpa using hb
      omega
    refine wp_skip (hK2 _ _ ?_)
    refine wp_seq_k fun K5 hK5 => ?_
    refine wp_region_lit ?_
    refine ls hk rfl rfl rfl (e_assign hk rfl _) fun a hk => ?_
    refine lnil (hK5 _ _ ?_)
    refine wp_seq_k fun K6 hK6 => ?_
    refine wp_seq_k fun K7 hK7 => ?_
    refine wp_region_lit ?_
    refine ls hk rfl rfl rfl (e_move hk rfl _) fun a hk => ?_
    refine ls hk rfl rfl rfl (e_lenStr hk rfl Tryd.underlying9 _) fun a hk => ?_
    refine ls hk rfl rfl rfl (e_move hk rfl _) fun a hk => ?_
    refine lnil (hK7 _ _ ?_)
    refine wp_block ?_
    refine loopN (fun n a w => ∃ (j : Nat) (x : UInt8), n = s.length - j ∧ j ≤ s.length ∧ (x = 0 ↔ s.take j = t.take j) ∧ Kn a 29 [(0, Str s), (1, Str t), (5, B x), (13, I s.length), (14, I j)] ∧ Below w0.heap.size w0 w) (s.length) ?_ fun n a w hI => ?_
    · exact ⟨0, 0, rfl, Nat.zero_le _, by simp, hk.sub _ ⟨rfl, rfl, rfl, rfl, rfl, trivial⟩, Below.refl _ _⟩
    obtain ⟨j, x, rfl, hj, hx, hk, hB⟩ := hI
    refine wp_seq_k fun K8 hK8 => ?_
    refine wp_region_lit ?_
    refine ls hk rfl rfl rfl (e_lss hk rfl rfl rfl _) fun a hk => ?_
    refine lnil (hK8 _ _ ?_)
    refine wp_seq_k fun K9 hK9 => ?_
    refine cdB hk rfl (fun hb => ?_) (fun hb => ?_)
    · have hjl : j < s.length := by have := of_decide_eq_true hb; omega
      have hs9 : j < 9223372036854775807 := by omega
      obtain ⟨p, hp⟩ : ∃ p, s[j]? = some p := ⟨_, List.getElem?_eq_getElem hjl⟩
      obtain ⟨q, hq⟩ : ∃ q, t[j]? = some q := ⟨_, List.getElem?_eq_getElem (by omega)⟩
      refine wp_skip (hK9 _ _ ?_)
      refine wp_seq_k fun K10 hK10 => ?_
      refine wp_block ?_
      refine wp_seq_k fun K11 hK11 => ?_
      refine wp_region_lit ?_
      refine ls hk rfl rfl rfl (e_move hk rfl _) fun a hk => ?_
      refine ls hk rfl rfl rfl (e_assign hk rfl _) fun a hk => ?_
      refine lnil (hK11 _ _ ?_)
      refine wp_region_ok (fun _ => True) [0, 0, 0, 0, 0, 0, 0, 0, 0, 0] mixed ?_
      refine d0 0 hk rfl (by kernel_rfl) rfl rfl rfl rfl (fun _ => e_move hk rfl _) fun a hk => ?_
      refine d0 1 hk rfl (by kernel_rfl) rfl rfl rfl rfl (fun _ => e_move hk rfl _) fun a hk => ?_
      refine d0 2 hk rfl (by kernel_rfl) rfl rfl rfl rfl (fun _ => e_move hk rfl _) fun a hk => ?_
      refine d0 3 hk rfl (by kernel_rfl) rfl rfl rfl rfl (fun _ => e_idxStr (c := p) hk rfl rfl Tryd.underlying9 (by omega) (by simpa using hp) _) fun a hk => ?_
      refine d0 4 hk rfl (by kernel_rfl) rfl rfl rfl rfl (fun _ => e_move hk rfl _) fun a hk => ?_
      refine d0 5 hk rfl (by kernel_rfl) rfl rfl rfl rfl (fun _ => e_move hk rfl _) fun a hk => ?_
      refine d0 6 hk rfl (by kernel_rfl) rfl rfl rfl rfl (fun _ => e_idxStr (c := q) hk rfl rfl Tryd.underlying9 (by omega) (by simpa using hq) _) fun a hk => ?_
      refine d0 7 hk rfl (by kernel_rfl) rfl rfl rfl rfl (fun _ => e_xor hk rfl rfl (b_xor _ _) _) fun a hk => ?_
      refine d0 8 hk rfl (by kernel_rfl) rfl rfl rfl rfl (fun _ => e_or hk rfl rfl (b_or _ _) _) fun a hk => ?_
      refine d0 9 hk rfl (by kernel_rfl) rfl rfl rfl rfl (fun _ => e_assign hk rfl _) fun a hk => ?_
      refine okFin (by kernel_rfl) (hK10 _ _ ?_)
      refine wp_region_lit ?_
      refine ls hk rfl rfl rfl (e_add hk rfl rfl (i64 (by omega) (by omega)) _) fun a hk => ?_
      refine ls hk rfl rfl rfl (e_move hk rfl _) fun a hk => ?_
      refine lnil (show ∃ m : Nat, m < _ ∧ _ from ⟨s.length - (j + 1), by omega, j + 1, _, rfl, by omega, by rw [take_eq_succ s t j p q hp hq, or_zero, hx, xor_zero], hk.sub _ ⟨rfl, rfl, rfl, rfl, rfl, trivial⟩, hB.drew⟩)
    · have hjl : j = s.length := by have := of_decide_eq_false hb; omega
      subst hjl
      rw [List.take_length, hl, List.take_length] at hx
      refine wp_exit (hK6 _ _ ?_)
      refine wp_seq_k fun K12 hK12 => ?_
      refine wp_region_lit ?_
      refine ls hk rfl rfl rfl (e_move hk rfl _) fun a hk => ?_
      refine ls hk rfl rfl rfl (e_eql (b := decide (s = t)) hk rfl rfl (by rw [decide_eq_decide, ← hx]; exact ⟨fun h => UInt8.toNat.inj (by simpa using h), fun h => by subst h; rfl⟩) _) fun a hk => ?_
      refine ls hk rfl rfl rfl (e_assign hk rfl _) fun a hk => ?_
      refine lnil (hK12 _ _ ?_)
      refine wp_ret ?_
      refine ret1 hk rfl rfl ⟨rfl, hB⟩

set_option maxRecDepth 4000 in
set_option maxHeartbeats 1000000 in
theorem c32 (l : List UInt8) (w0 : World) (hl : l.length = 32) :
    Calls Tryd.prog 32 #[.agg (l.map B).toArray] w0 fun e w' => e = .returned (Str l) ∧ Ext w0 w' := by
  refine start 17 Tryd.func32 rfl rfl rfl fun a hk => ?_
  refine wp_seq_k fun K1 hK1 => ?_
  refine wp_region_lit ?_
  refine la hk rfl (a_box hk rfl rfl fun a w b1 hk G1 => ?_)
  refine ls hk rfl rfl rfl (e_assign hk rfl _) fun a hk => ?_
  have hB : Below w0.heap.size w0 w := G1.ext
  have h1 : w.heap[b1]? = some (.cells (l.map B).toArray 24 (0, 0)) := G1.at_
  have hg1 := G1.ge
  have hCC := hB.size
  clear G1
  refine lnil (hK1 _ _ ?_)
  refine wp_seq_k fun K2 hK2 => ?_
  refine wp_region_lit ?_
  refine ls hk rfl rfl rfl (e_assign hk rfl _) fun a hk => ?_
  refine lnil (hK2 _ _ ?_)
  refine wp_seq_k fun K3 hK3 => ?_
  refine wp_seq_k fun K4 hK4 => ?_
  refine wp_region_lit ?_
  refine ls hk rfl rfl rfl (e_assign hk rfl _) fun a hk => ?_
  refine lnil (hK4 _ _ ?_)
  refine wp_block ?_
  refine loopN (fun n a w => ∃ (j : Nat) (ad : Option Addr) (c : Nat), n = 32 - j ∧ j ≤ 32 ∧ Kn a 17 [(1, .pointer (some ⟨b1, 0, none⟩)), (3, .slice ad j c), (4, I j)] ∧ Below w0.heap.size w0 w ∧ b1 < w.heap.size ∧ w.heap[b1]? = some (.cells (l.map B).toArray 24 (0, 0)) ∧ w.ownsRow (b1 + 1) 5 1 (.slice ad j c) j ((l.take j).map B)) (32) ?_ fun n a w hI => ?_
  · exact ⟨0, none, 0, rfl, by omega, hk.sub _ ⟨rfl, rfl, rfl, trivial⟩, hB, heap_lt h1, h1, own_nil⟩
  clear hB h1 hCC
  obtain ⟨j, ad, c, rfl, hj, hk, hB, hCC, h1, hown⟩ := hI
  refine wp_seq_k fun K5 hK5 => ?_
  refine wp_seq_k fun K6 hK6 => ?_
  refine wp_region_lit ?_
  refine ls hk rfl rfl rfl (e_move hk rfl _) fun a hk => ?_
  refine ls hk rfl rfl rfl (e_lss hk rfl rfl rfl _) fun a hk => ?_
  refine lnil (hK6 _ _ ?_)
  refine cdB hk rfl (fun hb => ?_) (fun hb => ?_)
  · have hjl : j < l.length := by have := of_decide_eq_true hb; omega
    have hjn : j < 32 := by omega
    refine wp_skip (hK5 _ _ ?_)
    refine wp_seq_k fun K7 hK7 => ?_
    refine wp_block ?_
    refine wp_region_lit ?_
    refine ls hk rfl rfl rfl (e_move hk rfl _) fun a hk => ?_
    refine ls hk rfl rfl rfl (e_move hk rfl _) fun a hk => ?_
    refine ls hk rfl rfl rfl (e_idxA1 j hk rfl rfl Tryd.underlying24 sz5 rfl hjn _) fun a hk => ?_
    refine ls hk rfl rfl rfl (r_load (v := B l[j]) hk rfl Tryd.underlying5 rfl h1 (by simp [hjl])) fun a hk => ?_
    refine la hk rfl (a_lit (cells := #[B (l[j])]) (zv := .int .u8 0) (sz := 1) (by_ := 1) hk rfl rfl Tryd.underlying22 el5 (by decide) (by decide) (lit1 _ _ rfl) rfl fun a w bl hk GL => ?_)
    have hown := own_ext hown GL.ext
    have h1 := ext_at GL.ext h1
    have hB := ext_trans hB GL.ext
    have hRd := lit_byte _ GL
    have hCC := Nat.lt_of_lt_of_le hCC GL.ext.size
    clear GL
    refine la hk rfl (a_app hk rfl rfl hown rfl hRd (bytes_one _) Tryd.underlying22 el5 rfl (by decide) (by omega) (by omega) hCC fun a w v hk hown' hKp => ?_)
    have hB := kept_below hKp hB hown (Nat.le_trans hg1 (Nat.le_succ _)) hB.size
    have h1 := kept_lt hKp hown (Nat.lt_succ_self _) h1
    have hCC := Nat.lt_of_lt_of_le hCC hKp.size
    clear hown hKp hRd
    obtain ⟨ad, c, rfl, _, _⟩ := Rd.of_own hown'
    have hown : w.ownsRow (b1 + 1) 5 1 (.slice ad (j + 1) c) (j + 1) ((l.take (j + 1)).map B) := by
      rw [List.take_add_one, List.getElem?_eq_getElem hjl, List.map_append]; exact hown'
    clear hown'
    refine ls hk rfl rfl rfl (e_assign hk rfl _) fun a hk => ?_
    refine lnil (hK7 _ _ ?_)
    refine wp_region_lit ?_
    refine ls hk rfl rfl rfl (e_move hk rfl _) fun a hk => ?_
    refine ls hk rfl rfl rfl (e_add hk rfl rfl (i64 (by omega) (by omega)) _) fun a hk => ?_
    refine ls hk rfl rfl rfl (e_assign hk rfl _) fun a hk => ?_
    refine lnil (show ∃ m : Nat, m < _ ∧ _ from ⟨32 - (j + 1), by omega, j + 1, ad, c, rfl, by omega, hk.sub _ ⟨rfl, rfl, rfl, trivial⟩, hB, hCC, h1, hown⟩)
  · have hjl : j = l.length := by have := of_decide_eq_false hb; omega
    subst hjl
    rw [List.take_length] at hown
    refine wp_exit (hK3 _ _ ?_)
    refine wp_seq_k fun K8 hK8 => ?_
    obtain ⟨_, _, hv, _, hRe⟩ := Rd.of_own hown
    cases hv
    refine wp_region_lit ?_
    refine ls hk rfl rfl rfl (e_move hk rfl _) fun a hk => ?_
    refine ls hk rfl rfl rfl (e_str (bs := l) hk rfl hRe Tryd.underlying22 Tryd.underlying5 Tryd.underlying9) fun a hk => ?_
    refine ls hk rfl rfl rfl (e_assign hk rfl _) fun a hk => ?_
    refine lnil (hK8 _ _ ?_)
    refine wp_ret ?_
    exact ret1 hk rfl rfl ⟨rfl, hB⟩

set_option maxRecDepth 4000 in
set_option maxHeartbeats 1000000 in
theorem c66 (l : List UInt8) (w0 : World) (hl : l.length = 16) :
    Calls Tryd.prog 66 #[.agg (l.map B).toArray] w0 fun e w' => e = .returned (Str l) ∧ Ext w0 w' := by
  refine start 17 Tryd.func66 rfl rfl rfl fun a hk => ?_
  refine wp_seq_k fun K1 hK1 => ?_
  refine wp_region_lit ?_
  refine la hk rfl (a_box hk rfl rfl fun a w b1 hk G1 => ?_)
  refine ls hk rfl rfl rfl (e_assign hk rfl _) fun a hk => ?_
  have hB : Below w0.heap.size w0 w := G1.ext
  have h1 : w.heap[b1]? = some (.cells (l.map B).toArray 44 (0, 0)) := G1.at_
  have hg1 := G1.ge
  have hCC := hB.size
  clear G1
  refine lnil (hK1 _ _ ?_)
  refine wp_seq_k fun K2 hK2 => ?_
  refine wp_region_lit ?_
  refine ls hk rfl rfl rfl (e_assign hk rfl _) fun a hk => ?_
  refine lnil (hK2 _ _ ?_)
  refine wp_seq_k fun K3 hK3 => ?_
  refine wp_seq_k fun K4 hK4 => ?_
  refine wp_region_lit ?_
  refine ls hk rfl rfl rfl (e_assign hk rfl _) fun a hk => ?_
  refine lnil (hK4 _ _ ?_)
  refine wp_block ?_
  refine loopN (fun n a w => ∃ (j : Nat) (ad : Option Addr) (c : Nat), n = 16 - j ∧ j ≤ 16 ∧ Kn a 17 [(1, .pointer (some ⟨b1, 0, none⟩)), (3, .slice ad j c), (4, I j)] ∧ Below w0.heap.size w0 w ∧ b1 < w.heap.size ∧ w.heap[b1]? = some (.cells (l.map B).toArray 44 (0, 0)) ∧ w.ownsRow (b1 + 1) 5 1 (.slice ad j c) j ((l.take j).map B)) (16) ?_ fun n a w hI => ?_
  · exact ⟨0, none, 0, rfl, by omega, hk.sub _ ⟨rfl, rfl, rfl, trivial⟩, hB, heap_lt h1, h1, own_nil⟩
  clear hB h1 hCC
  obtain ⟨j, ad, c, rfl, hj, hk, hB, hCC, h1, hown⟩ := hI
  refine wp_seq_k fun K5 hK5 => ?_
  refine wp_seq_k fun K6 hK6 => ?_
  refine wp_region_lit ?_
  refine ls hk rfl rfl rfl (e_move hk rfl _) fun a hk => ?_
  refine ls hk rfl rfl rfl (e_lss hk rfl rfl rfl _) fun a hk => ?_
  refine lnil (hK6 _ _ ?_)
  refine cdB hk rfl (fun hb => ?_) (fun hb => ?_)
  · have hjl : j < l.length := by have := of_decide_eq_true hb; omega
    have hjn : j < 16 := by omega
    refine wp_skip (hK5 _ _ ?_)
    refine wp_seq_k fun K7 hK7 => ?_
    refine wp_block ?_
    refine wp_region_lit ?_
    refine ls hk rfl rfl rfl (e_move hk rfl _) fun a hk => ?_
    refine ls hk rfl rfl rfl (e_move hk rfl _) fun a hk => ?_
    refine ls hk rfl rfl rfl (e_idxA1 j hk rfl rfl Tryd.underlying44 sz5 rfl hjn _) fun a hk => ?_
    refine ls hk rfl rfl rfl (r_load (v := B l[j]) hk rfl Tryd.underlying5 rfl h1 (by simp [hjl])) fun a hk => ?_
    refine la hk rfl (a_lit (cells := #[B (l[j])]) (zv := .int .u8 0) (sz := 1) (by_ := 1) hk rfl rfl Tryd.underlying22 el5 (by decide) (by decide) (lit1 _ _ rfl) rfl fun a w bl hk GL => ?_)
    have hown := own_ext hown GL.ext
    have h1 := ext_at GL.ext h1
    have hB := ext_trans hB GL.ext
    have hRd := lit_byte _ GL
    have hCC := Nat.lt_of_lt_of_le hCC GL.ext.size
    clear GL
    refine la hk rfl (a_app hk rfl rfl hown rfl hRd (bytes_one _) Tryd.underlying22 el5 rfl (by decide) (by omega) (by omega) hCC fun a w v hk hown' hKp => ?_)
    have hB := kept_below hKp hB hown (Nat.le_trans hg1 (Nat.le_succ _)) hB.size
    have h1 := kept_lt hKp hown (Nat.lt_succ_self _) h1
    have hCC := Nat.lt_of_lt_of_le hCC hKp.size
    clear hown hKp hRd
    obtain ⟨ad, c, rfl, _, _⟩ := Rd.of_own hown'
    have hown : w.ownsRow (b1 + 1) 5 1 (.slice ad (j + 1) c) (j + 1) ((l.take (j + 1)).map B) := by
      rw [List.take_add_one, List.getElem?_eq_getElem hjl, List.map_append]; exact hown'
    clear hown'
    refine ls hk rfl rfl rfl (e_assign hk rfl _) fun a hk => ?_
    refine lnil (hK7 _ _ ?_)
    refine wp_region_lit ?_
    refine ls hk rfl rfl rfl (e_move hk rfl _) fun a hk => ?_
    refine ls hk rfl rfl rfl (e_add hk rfl rfl (i64 (by omega) (by omega)) _) fun a hk => ?_
    refine ls hk rfl rfl rfl (e_assign hk rfl _) fun a hk => ?_
    refine lnil (show ∃ m : Nat, m < _ ∧ _ from ⟨16 - (j + 1), by omega, j + 1, ad, c, rfl, by omega, hk.sub _ ⟨rfl, rfl, rfl, trivial⟩, hB, hCC, h1, hown⟩)
  · have hjl : j = l.length := by have := of_decide_eq_false hb; omega
    subst hjl
    rw [List.take_length] at hown
    refine wp_exit (hK3 _ _ ?_)
    refine wp_seq_k fun K8 hK8 => ?_
    obtain ⟨_, _, hv, _, hRe⟩ := Rd.of_own hown
    cases hv
    refine wp_region_lit ?_
    refine ls hk rfl rfl rfl (e_move hk rfl _) fun a hk => ?_
    refine ls hk rfl rfl rfl (e_str (bs := l) hk rfl hRe Tryd.underlying22 Tryd.underlying5 Tryd.underlying9) fun a hk => ?_
    refine ls hk rfl rfl rfl (e_assign hk rfl _) fun a hk => ?_
    refine lnil (hK8 _ _ ?_)
    refine wp_ret ?_
    exact ret1 hk rfl rfl ⟨rfl, hB⟩

def hexA : List UInt8 := [48, 49, 50, 51, 52, 53, 54, 55, 56, 57, 97, 98, 99, 100, 101, 102]
def hex2 (c : UInt8) : List UInt8 := [hexA.getD (c.toNat / 16) 0, hexA.getD (c.toNat % 16) 0]
def hexL (s : List UInt8) : List UInt8 := (s.map hex2).flatten
theorem hexA_get (n : Nat) (h : n < 16) : hexA[n]? = some (hexA.getD n 0) := by
  have : n < hexA.length := h
  simp [List.getD, List.getElem?_eq_getElem this]
theorem length_hexL (s : List UInt8) : (hexL s).length = 2 * s.length := by
  induction s with
  | nil => rfl
  | cons c r ih =>
    have e : hexL (c :: r) = hex2 c ++ hexL r := rfl
    rw [e, List.length_append, ih, show (hex2 c).length = 2 from rfl, List.length_cons]; omega
theorem hexL_take (s : List UInt8) (j : Nat) (c : UInt8) (h : s[j]? = some c) : hexL (s.take (j + 1)) = hexL (s.take j) ++ hex2 c := by
  obtain ⟨hj, rfl⟩ := List.getElem?_eq_some_iff.1 h
  unfold hexL
  rw [List.take_add_one, List.getElem?_eq_getElem hj]
  simp only [Option.toList_some, List.map_append, List.flatten_append, List.map_cons, List.map_nil, List.flatten_cons, List.flatten_nil, List.append_nil]
theorem u8_lt (c : UInt8) : c.toNat < 256 := c.toNat_lt
theorem w8_small (n : Nat) (h : n < 256) : IntKind.u8.wrap (n : Int) = (n : Int) := by rw [wrap8u]; omega

theorem lit2 (z v u : Value) (hv : v.cells = #[v]) (hu : u.cells = #[u]) : Instr.fill (fun i => some (i * 1, 1)) ((Array.range (2 * 1)).map (z.cells[· % z.cells.size]!)) [(0, v), (1, u)] = some #[v, u] := by
  have hr : Array.range 2 = #[0, 1] := by decide
  have h : ∀ p q : Value, (#[p, q] : Array Value).setIfInBounds 0 v = #[v, q] := fun _ _ => rfl
  have h' : ∀ p q : Value, (#[p, q] : Array Value).setIfInBounds 1 u = #[p, u] := fun _ _ => rfl
  simp [Instr.fill, hv, hu, hr, h, h']

set_option maxRecDepth 4000 in
set_option maxHeartbeats 1000000 in
theorem c65 (s : List UInt8) (w0 : World) (hl : s.length ≤ 1000000) :
    Calls Tryd.prog 65 #[Str s] w0 fun e w' => e = .returned (Str (hexL s)) ∧ Ext w0 w' := by
  refine start 29 Tryd.func65 rfl rfl rfl fun a hk => ?_
  refine wp_seq_k fun K1 hK1 => ?_
  refine wp_region_lit ?_
  refine ls hk rfl rfl rfl (e_assign hk rfl _) fun a hk => ?_
  refine lnil (hK1 _ _ ?_)
  refine wp_seq_k fun K2 hK2 => ?_
  refine wp_region_lit ?_
  refine ls hk rfl rfl rfl (e_assign hk rfl _) fun a hk => ?_
  refine lnil (hK2 _ _ ?_)
  refine wp_seq_k fun K3 hK3 => ?_
  refine wp_region_lit ?_
  refine ls hk rfl rfl rfl (e_assign hk rfl _) fun a hk => ?_
  refine lnil (hK3 _ _ ?_)
  refine wp_seq_k fun K4 hK4 => ?_
  refine wp_seq_k fun K5 hK5 => ?_
  refine wp_region_lit ?_
  refine ls hk rfl rfl rfl (e_assign hk rfl _) fun a hk => ?_
  refine lnil (hK5 _ _ ?_)
  refine wp_block ?_
  refine loopN (fun n a w => ∃ (j m : Nat) (ad : Option Addr) (cc : Nat), n = s.length - j ∧ j ≤ s.length ∧ m = 2 * j ∧ Kn a 29 [(0, Str s), (3, Str hexA), (4, .slice ad m cc), (5, I j)] ∧ Below w0.heap.size w0 w ∧ w0.heap.size ≤ w.heap.size ∧ w.ownsRow w0.heap.size 5 1 (.slice ad m cc) m ((hexL (s.take j)).map B)) (s.length) ?_ fun n a w hI => ?_
  · exact ⟨0, 0, none, 0, rfl, Nat.zero_le _, rfl, hk.sub _ ⟨rfl, rfl, rfl, rfl, trivial⟩, Below.refl _ _, Nat.le_refl _, own_nil⟩
  obtain ⟨j, m, ad, cc, rfl, hj, hm, hk, hB, hCC, hown⟩ := hI
  refine wp_seq_k fun K6 hK6 => ?_
  refine wp_seq_k fun K7 hK7 => ?_
  refine wp_region_lit ?_
  refine ls hk rfl rfl rfl (e_move hk rfl _) fun a hk => ?_
  refine ls hk rfl rfl rfl (e_move hk rfl _) fun a hk => ?_
  refine ls hk rfl rfl rfl (e_lenStr hk rfl Tryd.underlying9 _) fun a hk => ?_
  refine ls hk rfl rfl rfl (e_lss hk rfl rfl rfl _) fun a hk => ?_
  refine lnil (hK7 _ _ ?_)
  refine cdB hk rfl (fun hb => ?_) (fun hb => ?_)
  · have hjl : j < s.length := by have := of_decide_eq_true hb; omega
    obtain ⟨c, hc⟩ : ∃ c, s[j]? = some c := ⟨_, List.getElem?_eq_getElem hjl⟩
    have hc8 := u8_lt c
    refine wp_skip (hK6 _ _ ?_)
    refine wp_seq_k fun K8 hK8 => ?_
    refine wp_block ?_
    refine wp_region_ok (fun _ => True) [0, 0, 0, 0, 0, 0, 0, 0, 0, 0, 0, 0, 0, 2, 2, 0] mixed ?_
    have hB := hB.drew
    have hown : w.drew.ownsRow w0.heap.size 5 1 (.slice ad m cc) m ((hexL (s.take j)).map B) := own_ext hown (ext_drew _)
    have hCC : w0.heap.size ≤ w.drew.heap.size := hB.size
    refine d0 0 hk rfl (by kernel_rfl) rfl rfl rfl rfl (fun _ => e_move hk rfl _) fun a hk => ?_
    refine d0 1 hk rfl (by kernel_rfl) rfl rfl rfl rfl (fun _ => e_move hk rfl _) fun a hk => ?_
    refine d0 2 hk rfl (by kernel_rfl) rfl rfl rfl rfl (fun _ => e_move hk rfl _) fun a hk => ?_
    refine d0 3 hk rfl (by kernel_rfl) rfl rfl rfl rfl (fun _ => e_move hk rfl _) fun a hk => ?_
    refine d0 4 hk rfl (by kernel_rfl) rfl rfl rfl rfl (fun _ => e_idxStr (c := c) hk rfl rfl Tryd.underlying9 (by omega) (by simpa using hc) _) fun a hk => ?_
    refine d0 5 hk rfl (by kernel_rfl) rfl rfl rfl rfl (fun _ => e_quo (q := ((c.toNat / 16 : Nat) : Int)) hk rfl rfl (by decide) (by rw [show ((c.toNat : Int)).tdiv 16 = ((c.toNat / 16 : Nat) : Int) from i_quo c.toNat 16, w8_small _ (by omega)]) _) fun a hk => ?_
    refine d0 6 hk rfl (by kernel_rfl) rfl rfl rfl rfl (fun _ => e_idxStr (c := hexA.getD (c.toNat / 16) 0) hk rfl rfl Tryd.underlying9 (by omega) (hexA_get _ (by omega)) _) fun a hk => ?_
    refine d0 7 hk rfl (by kernel_rfl) rfl rfl rfl rfl (fun _ => e_move hk rfl _) fun a hk => ?_
    refine d0 8 hk rfl (by kernel_rfl) rfl rfl rfl rfl (fun _ => e_move hk rfl _) fun a hk => ?_
    refine d0 9 hk rfl (by kernel_rfl) rfl rfl rfl rfl (fun _ => e_move hk rfl _) fun a hk => ?_
    refine d0 10 hk rfl (by kernel_rfl) rfl rfl rfl rfl (fun _ => e_idxStr (c := c) hk rfl rfl Tryd.underlying9 (by omega) (by simpa using hc) _) fun a hk => ?_
    refine d0 11 hk rfl (by kernel_rfl) rfl rfl rfl rfl (fun _ => e_rem (q := ((c.toNat % 16 : Nat) : Int)) hk rfl rfl (by decide) (i_rem c.toNat 16) _) fun a hk => ?_
    refine d0 12 hk rfl (by kernel_rfl) rfl rfl rfl rfl (fun _ => e_idxStr (c := hexA.getD (c.toNat % 16) 0) hk rfl rfl Tryd.underlying9 (by omega) (hexA_get _ (by omega)) _) fun a hk => ?_
    refine da 13 hk rfl (by kernel_rfl) rfl rfl (a_lit (cells := #[B (hexA.getD (c.toNat / 16) 0), B (hexA.getD (c.toNat % 16) 0)]) (zv := .int .u8 0) (sz := 1) (by_ := 1) hk rfl rfl Tryd.underlying22 el5 (by decide) (by decide) (lit2 _ _ _ rfl rfl) rfl fun a w bl hk GL => ?_)
    have hB := ext_trans hB GL.ext
    have hown := own_ext hown GL.ext
    have hRd : Rd w (some ⟨bl, 0, none⟩) 2 2 1 ((hex2 c).map B) := Rd.of_block GL.at_ rfl (Nat.le_refl _) (fun i hi => by
      have hi' : i < 2 := hi
      match i, hi' with
      | 0, _ => rfl
      | 1, _ => rfl)
    have hCC := Nat.le_trans hCC GL.ext.size
    clear GL
    refine da 14 hk rfl (by kernel_rfl) rfl rfl (a_app hk rfl rfl hown rfl hRd (bytes_one _) Tryd.underlying22 el5 rfl (by decide) (by omega) (by omega) hCC fun a w v hk hown' hKp => ?_)
    have hB := kept_below hKp hB hown (Nat.le_refl _) hCC
    have hCC := Nat.le_trans hCC hKp.size
    clear hown hKp hRd
    obtain ⟨ad, cc, rfl, _, _⟩ := Rd.of_own hown'
    have hown : w.ownsRow w0.heap.size 5 1 (.slice ad (m + 2) cc) (m + 2) ((hexL (s.take (j + 1))).map B) := by
      rw [hexL_take _ _ _ hc, List.map_append]; exact hown'
    clear hown'
    refine d0 15 hk rfl (by kernel_rfl) rfl rfl rfl rfl (fun _ => e_assign hk rfl _) fun a hk => ?_
    refine okFin (by kernel_rfl) (hK8 _ _ ?_)
    refine wp_region_lit ?_
    refine ls hk rfl rfl rfl (e_move hk rfl _) fun a hk => ?_
    refine ls hk rfl rfl rfl (e_add hk rfl rfl (i64 (by omega) (by omega)) _) fun a hk => ?_
    refine ls hk rfl rfl rfl (e_assign hk rfl _) fun a hk => ?_
    refine lnil (show ∃ m : Nat, m < _ ∧ _ from ⟨s.length - (j + 1), by omega, j + 1, m + 2, ad, cc, rfl, by omega, by omega, hk.sub _ ⟨rfl, rfl, rfl, rfl, trivial⟩, hB, hCC, hown⟩)
  · have hjl : j = s.length := by have := of_decide_eq_false hb; omega
    subst hjl
    rw [List.take_length] at hown
    refine wp_exit (hK4 _ _ ?_)
    refine wp_seq_k fun K9 hK9 => ?_
    obtain ⟨_, _, hv, _, hRe⟩ := Rd.of_own hown
    cases hv
    refine wp_region_lit ?_
    refine ls hk rfl rfl rfl (e_move hk rfl _) fun a hk => ?_
    refine ls hk rfl rfl rfl (e_str (bs := hexL s) hk rfl hRe Tryd.underlying22 Tryd.underlying5 Tryd.underlying9) fun a hk => ?_
    refine ls hk rfl rfl rfl (e_assign hk rfl _) fun a hk => ?_
    refine lnil (hK9 _ _ ?_)
    refine wp_ret ?_
    exact ret1 hk rfl rfl ⟨rfl, hB⟩

end Go.Proofs.YtidfbboalbchiaaDoor

namespace Go.Proofs.YtidfbboalbchiaaDoor

/-- The number, computed first. -/
def fc {α : Type} (n : Nat) (k : Nat → α) : α := match n with
  | 0 => k 0
  | m + 1 => k (m + 1)
theorem fc_eq {α : Type} (n : Nat) (k : Nat → α) : fc n k = k n := by cases n <;> rfl
def rN (x n : Nat) : Nat := (x <<< (32 - n)) % 4294967296 ||| (x >>> n)
def sg0N (x : Nat) : Nat := rN x 7 ^^^ rN x 18 ^^^ (x >>> 3)
def sg1N (x : Nat) : Nat := rN x 17 ^^^ rN x 19 ^^^ (x >>> 10)
def wnN (w0 w1 w9 w14 : Nat) : Nat := (w0 + sg0N w1 + w9 + sg1N w14) % 4294967296
def xN (k w e f g h : Nat) : Nat := (h + (rN e 6 ^^^ rN e 11 ^^^ rN e 25) + ((e &&& f) ^^^ ((4294967295 - e) &&& g)) + k + w) % 4294967296
def yN (a b c : Nat) : Nat := ((rN a 2 ^^^ rN a 13 ^^^ rN a 22) + ((a &&& b) ^^^ (a &&& c) ^^^ (b &&& c))) % 4294967296
def kcN : List Nat := kc.map (·.toNat)
def goN {α : Type} : List Nat → (Nat → Nat → Nat → Nat → Nat → Nat → Nat → Nat → Nat → Nat → Nat → Nat → Nat → Nat → Nat → Nat → Nat → Nat → Nat → Nat → Nat → Nat → Nat → Nat → (Nat → Nat → Nat → Nat → Nat → Nat → Nat → Nat → α) → α)
  | [], _, _, _, _, _, _, _, _, _, _, _, _, _, _, _, _, a, b, c, d, e, f, g, h, k => k a b c d e f g h
  | kk :: ks, w0, w1, w2, w3, w4, w5, w6, w7, w8, w9, w10, w11, w12, w13, w14, w15, a, b, c, d, e, f, g, h, k => fc (xN kk w0 e f g h) fun x => fc ((x + yN a b c) % 4294967296) fun a' => fc ((d + x) % 4294967296) fun e' => fc (wnN w0 w1 w9 w14) fun w16 =>
    goN ks w1 w2 w3 w4 w5 w6 w7 w8 w9 w10 w11 w12 w13 w14 w15 w16 a' a b c e' e f g k

/-- A block's words, one after another. -/
def wdt (b : List UInt8) (t : Nat) : UInt32 := (sched b (t + 1)).getD t 0
theorem sched_get (b : List UInt8) (n : Nat) : ∀ t, t < n → (sched b n).getD t 0 = wdt b t := by
  induction n with
  | zero => intro t h; omega
  | succ n ih =>
    intro t h
    by_cases ht : t = n
    · subst ht; rfl
    · rw [← ih t (by omega)]
      simp only [sched, List.getD_eq_getElem?_getD]
      rw [List.getElem?_append_left (by rw [length_sched]; omega)]
theorem wdt_lo (b : List UInt8) (t : Nat) (h : t < 16) : wdt b t = word ((b.drop (4 * t)).take 4) := by
  unfold wdt
  rw [sched, if_pos h, List.getD_eq_getElem?_getD, List.getElem?_append_right (by rw [length_sched]; omega), length_sched, Nat.sub_self]
  rfl
theorem wdt_hi (b : List UInt8) (t : Nat) : wdt b (t + 16) = wdt b t + sg0 (wdt b (t + 1)) + wdt b (t + 9) + sg1 (wdt b (t + 14)) := by
  show (sched b (t + 16 + 1)).getD (t + 16) 0 = _
  rw [sched, if_neg (by omega), List.getD_eq_getElem?_getD, List.getElem?_append_right (by rw [length_sched]; omega), length_sched, Nat.sub_self]
  show wnext _ _ = _
  unfold wnext
  rw [show t + 16 - 16 = t by omega, show t + 16 - 15 = t + 1 by omega, show t + 16 - 7 = t + 9 by omega, show t + 16 - 2 = t + 14 by omega]
  rw [sched_get _ _ _ (by omega), sched_get _ _ _ (by omega), sched_get _ _ _ (by omega), sched_get _ _ _ (by omega)]
theorem pw32 : (2 : Nat) ^ 32 = 4294967296 := by decide
theorem rN_eq (x : UInt32) (n : Nat) (h0 : 0 < n) (h : n < 32) : rN x.toNat n = (rotr x n).toNat := by
  unfold rN rotr
  rw [UInt32.toNat_or, UInt32.toNat_shiftLeft, UInt32.toNat_shiftRight]
  have e1 : (UInt32.ofNat (32 - n)).toNat % 32 = 32 - n := by simp; omega
  have e2 : (UInt32.ofNat n).toNat % 32 = n := by simp; omega
  rw [e1, e2]
theorem shr_eq (x : UInt32) (n : Nat) (h : n < 32) : x.toNat >>> n = (x >>> UInt32.ofNat n).toNat := by
  rw [UInt32.toNat_shiftRight]
  have e2 : (UInt32.ofNat n).toNat % 32 = n := by simp; omega
  rw [e2]
theorem sg0N_eq (x : UInt32) : sg0N x.toNat = (sg0 x).toNat := by
  unfold sg0N sg0
  rw [rN_eq _ _ (by decide) (by decide), rN_eq _ _ (by decide) (by decide), shr_eq _ _ (by decide), UInt32.toNat_xor, UInt32.toNat_xor]
theorem sg1N_eq (x : UInt32) : sg1N x.toNat = (sg1 x).toNat := by
  unfold sg1N sg1
  rw [rN_eq _ _ (by decide) (by decide), rN_eq _ _ (by decide) (by decide), shr_eq _ _ (by decide), UInt32.toNat_xor, UInt32.toNat_xor]
theorem wnN_eq (b : List UInt8) (t : Nat) : wnN (wdt b t).toNat (wdt b (t + 1)).toNat (wdt b (t + 9)).toNat (wdt b (t + 14)).toNat = (wdt b (t + 16)).toNat := by
  rw [wdt_hi]
  unfold wnN
  rw [sg0N_eq, sg1N_eq, UInt32.toNat_add, UInt32.toNat_add, UInt32.toNat_add, pw32]
  omega
theorem xN_eq (k w : UInt32) (s : S8) : xN k.toNat w.toNat s.e.toNat s.f.toNat s.g.toNat s.h.toNat = (xOf k w s).toNat := by
  unfold xN xOf
  rw [rN_eq _ _ (by decide) (by decide), rN_eq _ _ (by decide) (by decide), rN_eq _ _ (by decide) (by decide)]
  have hn : 4294967295 - s.e.toNat = (~~~s.e).toNat := by rw [UInt32.toNat_not]; rfl
  rw [hn]
  simp only [UInt32.toNat_add, UInt32.toNat_xor, UInt32.toNat_and, pw32]
  omega
theorem yN_eq (s : S8) : yN s.a.toNat s.b.toNat s.c.toNat = (yOf' s).toNat := by
  unfold yN yOf'
  rw [rN_eq _ _ (by decide) (by decide), rN_eq _ _ (by decide) (by decide), rN_eq _ _ (by decide) (by decide)]
  simp only [UInt32.toNat_add, UInt32.toNat_xor, UInt32.toNat_and, pw32]
/-- A state, given as numbers. -/
def S8.nat {α : Type} (s : S8) (k : Nat → Nat → Nat → Nat → Nat → Nat → Nat → Nat → α) : α := k s.a.toNat s.b.toNat s.c.toNat s.d.toNat s.e.toNat s.f.toNat s.g.toNat s.h.toNat

theorem goN_eq {α : Type} (bk : List UInt8) (s : S8) (k : Nat → Nat → Nat → Nat → Nat → Nat → Nat → Nat → α) : ∀ (ks : List Nat) (t : Nat), ks = kcN.drop t → t + ks.length = 64 →
    (rnds (sched bk 64) s t).nat (fun a b c d e f g h => goN ks (wdt bk t).toNat (wdt bk (t + 1)).toNat (wdt bk (t + 2)).toNat (wdt bk (t + 3)).toNat (wdt bk (t + 4)).toNat (wdt bk (t + 5)).toNat (wdt bk (t + 6)).toNat (wdt bk (t + 7)).toNat (wdt bk (t + 8)).toNat (wdt bk (t + 9)).toNat (wdt bk (t + 10)).toNat (wdt bk (t + 11)).toNat (wdt bk (t + 12)).toNat (wdt bk (t + 13)).toNat (wdt bk (t + 14)).toNat (wdt bk (t + 15)).toNat a b c d e f g h k) = (rnds (sched bk 64) s 64).nat k := by
  intro ks
  induction ks with
  | nil =>
    intro t _ hl
    simp at hl
    subst hl
    rfl
  | cons kk r ih =>
    intro t hd hl
    have hlt : t < 64 := by simp at hl; omega
    have hkk : kk = (kc.getD t 0).toNat := by
      have h1 : (kcN.drop t)[0]? = some kk := by rw [← hd]; rfl
      rw [List.getElem?_drop, Nat.add_zero] at h1
      unfold kcN at h1
      rw [List.getElem?_map] at h1
      rw [List.getD_eq_getElem?_getD]
      cases hq : kc[t]? with
      | none => rw [hq] at h1; cases h1
      | some v => rw [hq] at h1; simpa using h1.symm
    rw [← ih (t + 1) (by rw [← List.drop_drop, ← hd]; rfl) (by simp at hl; omega)]
    rw [rnds, sched_get _ _ _ hlt]
    show goN (kk :: r) (wdt bk t).toNat (wdt bk (t + 1)).toNat (wdt bk (t + 2)).toNat (wdt bk (t + 3)).toNat (wdt bk (t + 4)).toNat (wdt bk (t + 5)).toNat (wdt bk (t + 6)).toNat (wdt bk (t + 7)).toNat (wdt bk (t + 8)).toNat (wdt bk (t + 9)).toNat (wdt bk (t + 10)).toNat (wdt bk (t + 11)).toNat (wdt bk (t + 12)).toNat (wdt bk (t + 13)).toNat (wdt bk (t + 14)).toNat (wdt bk (t + 15)).toNat (rnds (sched bk 64) s t).a.toNat (rnds (sched bk 64) s t).b.toNat (rnds (sched bk 64) s t).c.toNat (rnds (sched bk 64) s t).d.toNat (rnds (sched bk 64) s t).e.toNat (rnds (sched bk 64) s t).f.toNat (rnds (sched bk 64) s t).g.toNat (rnds (sched bk 64) s t).h.toNat k = _
    rw [goN, fc_eq, fc_eq, fc_eq, fc_eq, hkk, xN_eq, yN_eq, wnN_eq]
    rw [← pw32, ← UInt32.toNat_add, ← UInt32.toNat_add]
    rfl

/-- Four bytes as a word. -/
def tk4 {α : Type} (l : List Nat) (k : Nat → List Nat → α) : α := match l with
  | p :: q :: r :: s :: t => fc (p * 16777216 + q * 65536 + r * 256 + s) fun w => k w t
  | _ => k 0 []
theorem word4 (p q r s : UInt8) : (word [p, q, r, s]).toNat = p.toNat * 16777216 + q.toNat * 65536 + r.toNat * 256 + s.toNat := by
  have hb : ∀ x : UInt8, x.toNat < 256 := fun x => x.toNat_lt
  have h1 : ∀ (a : UInt32) (x : UInt8), a.toNat < 16777216 → ((a <<< UInt32.ofNat 8) ||| x.toUInt32).toNat = a.toNat * 256 + x.toNat := by
    intro a x ha
    rw [UInt32.toNat_or, UInt32.toNat_shiftLeft, show (UInt32.ofNat 8).toNat % 32 = 8 from rfl, UInt8.toNat_toUInt32, Nat.mod_eq_of_lt (by rw [Nat.shiftLeft_eq]; omega), ← Nat.shiftLeft_add_eq_or_of_lt (hb x), Nat.shiftLeft_eq]
  have hp := hb p; have hq := hb q; have hr := hb r; have hs := hb s
  unfold word
  simp only [List.foldl]
  have e0 : ((0 : UInt32)).toNat = 0 := rfl
  have e1 := h1 0 p (by rw [e0]; omega)
  rw [e0] at e1
  have e2 := h1 _ q (by rw [e1]; omega)
  have e3 := h1 _ r (by rw [e2, e1]; omega)
  have e4 := h1 _ s (by rw [e3, e2, e1]; omega)
  rw [e4, e3, e2, e1]
  omega
def nl (m : List UInt8) : List Nat := m.map (·.toNat)
theorem tk4_eq {α : Type} (m : List UInt8) (k : Nat → List Nat → α) (h : 4 ≤ m.length) : tk4 (nl m) k = k (word (m.take 4)).toNat (nl (m.drop 4)) := by
  match m, h with
  | p :: q :: r :: s :: t, _ =>
    show fc (p.toNat * 16777216 + q.toNat * 65536 + r.toNat * 256 + s.toNat) (fun w => k w (nl t)) = _
    rw [fc_eq]
    show _ = k (word [p, q, r, s]).toNat (nl t)
    rw [word4]

def tk64 {α : Type} (l0 : List Nat) (k : Nat → Nat → Nat → Nat → Nat → Nat → Nat → Nat → Nat → Nat → Nat → Nat → Nat → Nat → Nat → Nat → List Nat → α) : α := tk4 l0 fun w0 l1 => tk4 l1 fun w1 l2 => tk4 l2 fun w2 l3 => tk4 l3 fun w3 l4 => tk4 l4 fun w4 l5 => tk4 l5 fun w5 l6 => tk4 l6 fun w6 l7 => tk4 l7 fun w7 l8 => tk4 l8 fun w8 l9 => tk4 l9 fun w9 l10 => tk4 l10 fun w10 l11 => tk4 l11 fun w11 l12 => tk4 l12 fun w12 l13 => tk4 l13 fun w13 l14 => tk4 l14 fun w14 l15 => tk4 l15 fun w15 l16 => k w0 w1 w2 w3 w4 w5 w6 w7 w8 w9 w10 w11 w12 w13 w14 w15 l16
theorem tk64_eq {α : Type} (m : List UInt8) (k : Nat → Nat → Nat → Nat → Nat → Nat → Nat → Nat → Nat → Nat → Nat → Nat → Nat → Nat → Nat → Nat → List Nat → α) (h : 64 ≤ m.length) : tk64 (nl m) k = k (wdt (m.take 64) 0).toNat (wdt (m.take 64) 1).toNat (wdt (m.take 64) 2).toNat (wdt (m.take 64) 3).toNat (wdt (m.take 64) 4).toNat (wdt (m.take 64) 5).toNat (wdt (m.take 64) 6).toNat (wdt (m.take 64) 7).toNat (wdt (m.take 64) 8).toNat (wdt (m.take 64) 9).toNat (wdt (m.take 64) 10).toNat (wdt (m.take 64) 11).toNat (wdt (m.take 64) 12).toNat (wdt (m.take 64) 13).toNat (wdt (m.take 64) 14).toNat (wdt (m.take 64) 15).toNat (nl (m.drop 64)) := by
  unfold tk64
  rw [tk4_eq _ _ (by first | omega | (simp only [List.length_drop]; omega))]
  rw [tk4_eq _ _ (by first | omega | (simp only [List.length_drop]; omega))]
  rw [tk4_eq _ _ (by first | omega | (simp only [List.length_drop]; omega))]
  rw [tk4_eq _ _ (by first | omega | (simp only [List.length_drop]; omega))]
  rw [tk4_eq _ _ (by first | omega | (simp only [List.length_drop]; omega))]
  rw [tk4_eq _ _ (by first | omega | (simp only [List.length_drop]; omega))]
  rw [tk4_eq _ _ (by first | omega | (simp only [List.length_drop]; omega))]
  rw [tk4_eq _ _ (by first | omega | (simp only [List.length_drop]; omega))]
  rw [tk4_eq _ _ (by first | omega | (simp only [List.length_drop]; omega))]
  rw [tk4_eq _ _ (by first | omega | (simp only [List.length_drop]; omega))]
  rw [tk4_eq _ _ (by first | omega | (simp only [List.length_drop]; omega))]
  rw [tk4_eq _ _ (by first | omega | (simp only [List.length_drop]; omega))]
  rw [tk4_eq _ _ (by first | omega | (simp only [List.length_drop]; omega))]
  rw [tk4_eq _ _ (by first | omega | (simp only [List.length_drop]; omega))]
  rw [tk4_eq _ _ (by first | omega | (simp only [List.length_drop]; omega))]
  rw [tk4_eq _ _ (by first | omega | (simp only [List.length_drop]; omega))]
  simp only [List.drop_drop, Nat.reduceAdd]
  have hw : ∀ t, t < 16 → wdt (m.take 64) t = word ((m.drop (4 * t)).take 4) := fun t ht => by
    rw [wdt_lo _ _ ht, List.drop_take, List.take_take, show min 4 (64 - 4 * t) = 4 by omega]
  rw [hw 0 (by decide), hw 1 (by decide), hw 2 (by decide), hw 3 (by decide), hw 4 (by decide), hw 5 (by decide), hw 6 (by decide), hw 7 (by decide), hw 8 (by decide), hw 9 (by decide), hw 10 (by decide), hw 11 (by decide), hw 12 (by decide), hw 13 (by decide), hw 14 (by decide), hw 15 (by decide)]
  simp only [Nat.reduceMul, List.drop_zero]

def hstN {α : Type} : Nat → (Nat → Nat → Nat → Nat → Nat → Nat → Nat → Nat → List Nat → (Nat → Nat → Nat → Nat → Nat → Nat → Nat → Nat → α) → α)
  | 0, a, b, c, d, e, f, g, h, _, k => k a b c d e f g h
  | n + 1, a, b, c, d, e, f, g, h, l, k => tk64 l fun w0 w1 w2 w3 w4 w5 w6 w7 w8 w9 w10 w11 w12 w13 w14 w15 r => goN kcN w0 w1 w2 w3 w4 w5 w6 w7 w8 w9 w10 w11 w12 w13 w14 w15 a b c d e f g h fun a' b' c' d' e' f' g' h' =>
    fc ((a + a') % 4294967296) fun a2 => fc ((b + b') % 4294967296) fun b2 => fc ((c + c') % 4294967296) fun c2 => fc ((d + d') % 4294967296) fun d2 => fc ((e + e') % 4294967296) fun e2 => fc ((f + f') % 4294967296) fun f2 => fc ((g + g') % 4294967296) fun g2 => fc ((h + h') % 4294967296) fun h2 => hstN n a2 b2 c2 d2 e2 f2 g2 h2 r k
theorem hstN_eq {α : Type} (k : Nat → Nat → Nat → Nat → Nat → Nat → Nat → Nat → α) : ∀ (n : Nat) (s : S8) (m : List UInt8), 64 * n ≤ m.length → s.nat (fun a b c d e f g h => hstN n a b c d e f g h (nl m) k) = (hst n s m).nat k := by
  intro n
  induction n with
  | zero => intro s m _; rfl
  | succ n ih =>
    intro s m h
    rw [hst, ← ih _ _ (by simp; omega)]
    show hstN (n + 1) s.a.toNat s.b.toNat s.c.toNat s.d.toNat s.e.toNat s.f.toNat s.g.toNat s.h.toNat (nl m) k = _
    rw [hstN, tk64_eq _ _ (by omega)]
    have hg := goN_eq (m.take 64) s (fun a' b' c' d' e' f' g' h' => fc ((s.a.toNat + a') % 4294967296) fun a2 => fc ((s.b.toNat + b') % 4294967296) fun b2 => fc ((s.c.toNat + c') % 4294967296) fun c2 => fc ((s.d.toNat + d') % 4294967296) fun d2 => fc ((s.e.toNat + e') % 4294967296) fun e2 => fc ((s.f.toNat + f') % 4294967296) fun f2 => fc ((s.g.toNat + g') % 4294967296) fun g2 => fc ((s.h.toNat + h') % 4294967296) fun h2 => hstN n a2 b2 c2 d2 e2 f2 g2 h2 (nl (m.drop 64)) k) kcN 0 rfl rfl
    simp only [Nat.zero_add] at hg
    refine Eq.trans hg ?_
    simp only [S8.nat, fc_eq, compress, S8.add, UInt32.toNat_add, pw32]

def len8N (n : Nat) : List Nat := [n / 72057594037927936 % 256, n / 281474976710656 % 256, n / 1099511627776 % 256, n / 4294967296 % 256, n / 16777216 % 256, n / 65536 % 256, n / 256 % 256, n % 256]
def outN (a b c d e f g h : Nat) : List Nat := [a >>> 24 % 256, a >>> 16 % 256, a >>> 8 % 256, a >>> 0 % 256, b >>> 24 % 256, b >>> 16 % 256, b >>> 8 % 256, b >>> 0 % 256, c >>> 24 % 256, c >>> 16 % 256, c >>> 8 % 256, c >>> 0 % 256, d >>> 24 % 256, d >>> 16 % 256, d >>> 8 % 256, d >>> 0 % 256, e >>> 24 % 256, e >>> 16 % 256, e >>> 8 % 256, e >>> 0 % 256, f >>> 24 % 256, f >>> 16 % 256, f >>> 8 % 256, f >>> 0 % 256, g >>> 24 % 256, g >>> 16 % 256, g >>> 8 % 256, g >>> 0 % 256, h >>> 24 % 256, h >>> 16 % 256, h >>> 8 % 256, h >>> 0 % 256]
/-- The hash, as a list of numbers. -/
def shaN {α : Type} (l : List Nat) (k : List Nat → α) : α :=
  fc l.length fun n => hstN ((n + 9 + zeros n) / 64) 1779033703 3144134277 1013904242 2773480762 1359893119 2600822924 528734635 1541459225 (l ++ 128 :: (List.replicate (zeros n) 0 ++ len8N (8 * n))) fun a b c d e f g h => k (outN a b c d e f g h)
theorem len8N_eq (n : Nat) : len8N n = nl (len8 n) := by
  have e : ∀ x : Nat, (UInt8.ofNat (x % 256)).toNat = x % 256 := fun x => by simp
  unfold len8 nl len8N
  simp [List.range, List.range.loop]
theorem outN_eq (s : S8) : s.nat outN = nl (out32 s) := by
  have e : ∀ (x : UInt32) (n : Nat), n < 32 → x.toNat >>> n % 256 = (x >>> UInt32.ofNat n).toUInt8.toNat := fun x n h => by
    rw [UInt32.toNat_toUInt8, ← shr_eq _ _ h]
  unfold S8.nat outN
  rw [e _ 24 (by decide), e _ 16 (by decide), e _ 8 (by decide), e _ 0 (by decide), e _ 24 (by decide), e _ 16 (by decide), e _ 8 (by decide), e _ 0 (by decide), e _ 24 (by decide), e _ 16 (by decide), e _ 8 (by decide), e _ 0 (by decide), e _ 24 (by decide), e _ 16 (by decide), e _ 8 (by decide), e _ 0 (by decide), e _ 24 (by decide), e _ 16 (by decide), e _ 8 (by decide), e _ 0 (by decide), e _ 24 (by decide), e _ 16 (by decide), e _ 8 (by decide), e _ 0 (by decide), e _ 24 (by decide), e _ 16 (by decide), e _ 8 (by decide), e _ 0 (by decide), e _ 24 (by decide), e _ 16 (by decide), e _ 8 (by decide), e _ 0 (by decide)]
  rfl
theorem length_padding (n : Nat) : (padding n).length = 9 + zeros n := by
  simp [padding, len8]; omega
theorem shaN_eq {α : Type} (m : List UInt8) (k : List Nat → α) : shaN (nl m) k = k (nl (sha m)) := by
  unfold shaN sha state
  have hl : (nl m).length = m.length := by simp [nl]
  rw [fc_eq, hl]
  have hp : nl m ++ 128 :: (List.replicate (zeros m.length) 0 ++ len8N (8 * m.length)) = nl (m ++ padding m.length) := by
    rw [len8N_eq]
    simp [nl, padding]
  rw [hp]
  have hlen : (m ++ padding m.length).length = m.length + 9 + zeros m.length := by rw [List.length_append, length_padding]; omega
  rw [hlen]
  have h := hstN_eq (fun a b c d e f g h => k (outN a b c d e f g h)) ((m.length + 9 + zeros m.length) / 64) s8init (m ++ padding m.length) (by rw [hlen]; omega)
  refine Eq.trans h ?_
  rw [← outN_eq]
  rfl
/-- Equal lists of numbers. -/
def eqN : List Nat → List Nat → Bool
  | [], [] => true
  | x :: l, y :: r => Nat.beq x y && eqN l r
  | _, _ => false
theorem eqN_eq : ∀ (l r : List Nat), eqN l r = true → l = r := by
  intro l
  induction l with
  | nil => intro r h; cases r with
    | nil => rfl
    | cons => cases h
  | cons x l ih => intro r h; cases r with
    | nil => cases h
    | cons y r =>
      obtain ⟨h1, h2⟩ := Bool.and_eq_true_iff.1 h
      rw [Nat.eq_of_beq_eq_true h1, ih r h2]
theorem nl_inj {l r : List UInt8} (h : nl l = nl r) : l = r := by
  unfold nl at h
  exact (List.map_inj_right (fun _ _ h => UInt8.toNat.inj h)).1 h
theorem sha_is (m v : List UInt8) (h : shaN (nl m) (fun l => eqN l (nl v)) = true) : sha m = v := by
  rw [shaN_eq] at h
  exact nl_inj (eqN_eq _ _ h)
end Go.Proofs.YtidfbboalbchiaaDoor

namespace Go.Proofs.YtidfbboalbchiaaDoor
open Go Go.RowKit
variable {P : Program}
theorem run_partB {e : TypeId} {inf : TypeInfo} (l : List UInt8) (i : Nat) (w : World) (he : P.underlying e = some (.int .u8)) (hq : P.info? e = some inf) (hs : inf.size = 1) (hi : i < l.length) : (part e (l.map B).toArray i).run P w = .ok (B l[i]) w := by
  have hagg : (isAgg e).run P w = .ok false w := isAgg_row he rfl
  simp [part, sizeOf, typeInfo, hq, hs, hi, hagg]
theorem eq_loop (d : Nat) (e : TypeId) (l r : List UInt8) (w : World) (he : P.underlying e = some (.int .u8)) (inf : TypeInfo) (hq : P.info? e = some inf) (hs : inf.size = 1) (hlr : l.length = r.length) : ∀ (m k : Nat), k + m = l.length →
    Sem.run P (forIn (List.range' k m) ((none, ()) : Option Bool × Unit) fun i __s => do
            let __do_lift ← part e (List.map B l).toArray i
            let __do_lift_1 ← part e (List.map B r).toArray i
            let __do_lift ← Op.equalIn (d + 1) e __do_lift __do_lift_1
            if __do_lift = false then pure (ForInStep.done (some false, ())) else pure (ForInStep.yield (none, ()))) w = .ok (if l.drop k = r.drop k then (none, ()) else (some false, ())) w := by
  intro m
  induction m with
  | zero =>
    intro k hk
    rw [List.drop_of_length_le (by omega), List.drop_of_length_le (by omega)]
    simp
  | succ m ih =>
    intro k hk
    rw [List.range'_succ, List.forIn_cons]
    have h1 : k < l.length := by omega
    have h2 : k < r.length := by omega
    have hd : (l.drop k = r.drop k) ↔ (l[k] = r[k] ∧ l.drop (k + 1) = r.drop (k + 1)) := by
      rw [List.drop_eq_getElem_cons h1, List.drop_eq_getElem_cons h2]
      exact List.cons.injEq _ _ _ _ ▸ Iff.rfl
    simp only [Sem.run_bind, run_partB l k w he hq hs h1, run_partB r k w he hq hs h2, Result.andThen_ok, run_equalIn_int w d e .u8 .u8 _ _ he]
    by_cases hc : l[k] = r[k]
    · have := ih (k + 1) (by omega)
      simp [hd, hc, this]
    · have hb : ((l[k].toNat : Int) == (r[k].toNat : Int)) = false := by
        rw [beq_eq_false_iff_ne]
        intro h
        exact hc (UInt8.toNat.inj (by omega))
      simp [hd, hb, hc]
theorem eqA (d : Nat) (t e : TypeId) (n : Nat) (l r : List UInt8) (w : World) (ht : P.underlying t = some (.array n e)) (he : P.underlying e = some (.int .u8)) (hs : (P.info? e).map (·.size) = some 1) (hl : l.length = n) (hr : r.length = n) :
    (Op.equalIn (d + 2) t (.agg (l.map B).toArray) (.agg (r.map B).toArray)).run P w = .ok (decide (l = r)) w := by
  cases hq : P.info? e with
  | none => simp [hq] at hs
  | some inf =>
  have hs' : inf.size = 1 := by simpa [hq] using hs
  rw [Op.equalIn]
  simp only [Sem.run_bind, run_underlying ht, Result.andThen_ok]
  simp [sizeOf, typeInfo, hq, hs']
  rw [eq_loop d e l r w he inf hq hs' (by omega) n 0 (by omega)]
  by_cases h : l = r
  · simp [h]
  · simp [h]
theorem e_eqA {dst : Option Tmp} {ty : TypeId} {pos : String} {af : Array Edge} {g : Option (Nat × Bool)} {N : Nat} {L : Fm} {a : Act} {x y : Operand} {t e t' : TypeId} {n : Nat} {l r : List UInt8} {b : Bool} (hk : Kn a N L) (hx : ov L x = some (.agg (l.map B).toArray)) (hy : ov L y = some (.agg (r.map B).toArray))
    (ht : P.underlying t = some (.array n e)) (he : P.underlying e = some (.int .u8)) (hs : (P.info? e).map (·.size) = some 1) (hl : l.length = n) (hr : r.length = n) (hg : P.eqGuardType P.depth t = false) (hb : decide (l = r) = b) (w : World) :
    Ev P ⟨dst, .binOp .eql t x y t', ty, pos, af, g⟩ a w (.bool b) := by
  have h := eqA (P := P) 9998 t e n l r w ht he hs hl hr
  subst hb
  simp only [Ev, execOp, hk.op hx, hk.op hy, Sem.run_bind, run_eqGuard_agg _ _ _ _ _ _ _ hg, Result.andThen_ok, run_eql_struct]
  rw [h]
  rfl
/-- A byte slice converted to its own type: a constant string's bytes. -/
theorem a_convB {ty : TypeId} {pos : String} {af : Array Edge} {g : Option (Nat × Bool)} {N dd : Nat} {L : Fm} {a : Act} {w : World} {x : Operand} {t e : TypeId} {b n c : Nat} {C : Array Value} {K : Act → World → Prop} (hk : Kn a N L) (hN : Nat.blt dd N = true) (hx : ov L x = some (.slice (some ⟨b, 0, none⟩) n c))
    (ht : P.underlying t = some (.slice e)) (he : P.underlying e = some (.int .u8)) (hb : w.heap[b]? = some (.cells C e (0, 0)))
    (hK : ∀ a' w', Kn a' N ((dd, .slice (some ⟨b, 0, none⟩) n c) :: L) → Wrote w w' b (.cells C e (C.size, C.size + 1)) → K a' w') : acts P ⟨some dd, .convert t t x, ty, pos, af, g⟩ K a w := by
  have hsh : w.shape? b = some (e, C.size) := by unfold World.shape?; rw [hb]
  refine act_v (v := .slice (some ⟨b, 0, none⟩) n c) (w' := w.freeze ⟨b, C.size, none⟩ 1) hk rfl hN ?_ fun a' hk' => hK a' _ hk' ?_
  · simp [execOp, hk.op hx, convert, run_underlying ht, run_underlying he, markStringish, hsh]
  · unfold World.freeze
    rw [if_neg (by decide)]
    refine ⟨?_, fun k hk => ?_, by simp, rfl, rfl, rfl⟩
    · show (w.heap.modify b _)[b]? = _
      rw [Array.getElem?_modify, hb]
      simp
    · simp [Array.getElem?_modify, Ne.symm hk]
end Go.Proofs.YtidfbboalbchiaaDoor

namespace Go.Proofs.YtidfbboalbchiaaDoor
open Go Go.RowKit

theorem sha_abc : sha [97, 98, 99] = [186, 120, 22, 191, 143, 1, 207, 234, 65, 65, 64, 222, 93, 174, 34, 35, 176, 3, 97, 163, 150, 23, 122, 156, 180, 16, 255, 97, 242, 0, 21, 173] := sha_is _ _ (by kernel_rfl)
theorem hex_abc : hexL (sha [97, 98, 99]) = [98, 97, 55, 56, 49, 54, 98, 102, 56, 102, 48, 49, 99, 102, 101, 97, 52, 49, 52, 49, 52, 48, 100, 101, 53, 100, 97, 101, 50, 50, 50, 51, 98, 48, 48, 51, 54, 49, 97, 51, 57, 54, 49, 55, 55, 97, 57, 99, 98, 52, 49, 48, 102, 102, 54, 49, 102, 50, 48, 48, 49, 53, 97, 100] := by rw [sha_abc]; kernel_rfl
theorem mac_jefe : mac [74, 101, 102, 101] [119, 104, 97, 116, 32, 100, 111, 32, 121, 97, 32, 119, 97, 110, 116, 32, 102, 111, 114, 32, 110, 111, 116, 104, 105, 110, 103, 63] = [91, 220, 193, 70, 191, 96, 117, 78, 106, 4, 36, 38, 8, 149, 117, 199, 90, 0, 63, 8, 157, 39, 57, 131, 157, 236, 88, 185, 100, 236, 56, 67] := by
  have h : sha (key64 [74, 101, 102, 101] 54 ++ [119, 104, 97, 116, 32, 100, 111, 32, 121, 97, 32, 119, 97, 110, 116, 32, 102, 111, 114, 32, 110, 111, 116, 104, 105, 110, 103, 63]) = [162, 228, 133, 134, 61, 39, 249, 216, 100, 172, 141, 128, 36, 50, 161, 237, 71, 125, 140, 76, 111, 52, 157, 22, 212, 231, 233, 23, 198, 41, 202, 215] := sha_is _ _ (by kernel_rfl)
  unfold mac
  rw [h]
  exact sha_is _ _ (by kernel_rfl)
theorem hex_jefe : hexL (mac [74, 101, 102, 101] [119, 104, 97, 116, 32, 100, 111, 32, 121, 97, 32, 119, 97, 110, 116, 32, 102, 111, 114, 32, 110, 111, 116, 104, 105, 110, 103, 63]) = [53, 98, 100, 99, 99, 49, 52, 54, 98, 102, 54, 48, 55, 53, 52, 101, 54, 97, 48, 52, 50, 52, 50, 54, 48, 56, 57, 53, 55, 53, 99, 55, 53, 97, 48, 48, 51, 102, 48, 56, 57, 100, 50, 55, 51, 57, 56, 51, 57, 100, 101, 99, 53, 56, 98, 57, 54, 52, 101, 99, 51, 56, 52, 51] := by rw [mac_jefe]; kernel_rfl
theorem of_a : sha (ofIn 8 [[97], []]) = [54, 205, 80, 133, 3, 41, 248, 132, 6, 227, 27, 184, 167, 216, 251, 98, 14, 118, 198, 112, 165, 195, 11, 158, 192, 170, 190, 22, 148, 0, 123, 21] := sha_is _ _ (by kernel_rfl)
theorem hex_of : hexL ((sha (ofIn 8 [[97], []])).take 16) = [51, 54, 99, 100, 53, 48, 56, 53, 48, 51, 50, 57, 102, 56, 56, 52, 48, 54, 101, 51, 49, 98, 98, 56, 97, 55, 100, 56, 102, 98, 54, 50] := by rw [of_a]; kernel_rfl
theorem lit3 (z v u t : Value) (hv : v.cells = #[v]) (hu : u.cells = #[u]) (ht : t.cells = #[t]) : Instr.fill (fun i => some (i * 1, 1)) ((Array.range (3 * 1)).map (z.cells[· % z.cells.size]!)) [(0, v), (1, u), (2, t)] = some #[v, u, t] := by
  have hr : Array.range 3 = #[0, 1, 2] := by decide
  have h : ∀ p q s : Value, (#[p, q, s] : Array Value).setIfInBounds 0 v = #[v, q, s] := fun _ _ _ => rfl
  have h' : ∀ p q s : Value, (#[p, q, s] : Array Value).setIfInBounds 1 u = #[p, u, s] := fun _ _ _ => rfl
  have h'' : ∀ p q s : Value, (#[p, q, s] : Array Value).setIfInBounds 2 t = #[p, q, t] := fun _ _ _ => rfl
  simp [Instr.fill, hv, hu, ht, hr, h, h', h'']
theorem eg24 : Tryd.prog.eqGuardType Tryd.prog.depth 24 = false := by kernel_rfl
theorem eg44 : Tryd.prog.eqGuardType Tryd.prog.depth 44 = false := by kernel_rfl

set_option maxRecDepth 4000 in
set_option maxHeartbeats 1000000 in
theorem c22 (w0 : World) (hG : GH w0) : Calls Tryd.prog 22 #[] w0 fun e w' => e = .returned (.bool true) ∧ Ext w0 w' := by
  refine start (args := []) 49 Tryd.func22 rfl rfl rfl fun a hk => ?_
  refine wp_seq_k fun K1 hK1 => ?_
  refine wp_region_lit ?_
  refine ls hk rfl rfl rfl (e_assign hk rfl _) fun a hk => ?_
  refine lnil (hK1 _ _ ?_)
  refine wp_seq_k fun K2 hK2 => ?_
  have hB : Ext w0 w0 := Below.refl _ _
  refine wp_region_lit ?_
  refine la hk rfl (a_lit (cells := #[B 97, B 98, B 99]) (zv := .int .u8 0) (sz := 1) (by_ := 1) hk rfl rfl Tryd.underlying22 el5 (by decide) (by decide) (lit3 _ _ _ _ rfl rfl rfl) rfl fun a w bl hk GL => ?_)
  have hB := ext_trans hB GL.ext
  refine la hk rfl (a_convB hk rfl rfl Tryd.underlying22 Tryd.underlying5 GL.at_ fun a w hk WL => ?_)
  have hB : Ext w0 w := WL.below GL.ext GL.ge
  have hRd : Rd w (some ⟨bl, 0, none⟩) 3 3 1 (([97, 98, 99] : List UInt8).map B) := Rd.of_block WL.at_ rfl (Nat.le_refl _) (fun i hi => by
    have hi' : i < 3 := hi
    match i, hi' with
    | 0, _ => rfl
    | 1, _ => rfl
    | 2, _ => rfl)
  clear WL GL
  refine la hk rfl (a_call hk rfl rfl (c_fn hk rfl ok23) (c23 [97, 98, 99] _ _ _ _ hRd (hG.ext hB) (by decide)) ?_)
  rintro e w ⟨rfl, hE⟩
  refine ⟨_, rfl, fun a hk => ?_⟩
  have hB := ext_trans hB hE
  refine la hk rfl (a_alloc hk rfl zr24 fun a w b1 hk G1 => ?_)
  refine la hk rfl (a_storeB hk rfl rfl (bytes_oneA _) (by rw [sz24]; simp [length_sha]) G1.at_ (by simp [length_sha, Value.cells]) fun a w hk W1 => ?_)
  have hB := W1.below (ext_trans hB G1.ext) (Nat.le_trans hB.size G1.ge)
  have h1 := W1.at_
  clear W1 G1 hE
  refine lnil (hK2 _ _ ?_)
  refine wp_seq_k fun K3 hK3 => ?_
  refine wp_region_lit ?_
  refine la hk rfl (a_call hk rfl rfl (c_fn (vs := []) hk rfl ok26) (c26 _) ?_)
  rintro e w ⟨v, rfl, hIs, hE⟩
  refine ⟨_, rfl, fun a hk => ?_⟩
  have h1 := ext_at hE h1
  have hB := ext_trans hB hE
  refine la hk rfl (a_call hk rfl rfl (c_fn hk rfl ok27) (c27 [] [97] _ _ hIs (hG.ext hB) (by decide)) ?_)
  rintro e w ⟨v, rfl, hIs, hE⟩
  refine ⟨_, rfl, fun a hk => ?_⟩
  have h1 := ext_at hE h1
  have hB := ext_trans hB hE
  refine la hk rfl (a_call hk rfl rfl (c_fn hk rfl ok27) (c27 _ [98, 99] _ _ hIs (hG.ext hB) (by decide)) ?_)
  rintro e w ⟨v, rfl, hIs, hE⟩
  refine ⟨_, rfl, fun a hk => ?_⟩
  have h1 := ext_at hE h1
  have hB := ext_trans hB hE
  refine la hk rfl (a_call hk rfl rfl (c_fn hk rfl ok29) (c29 [97, 98, 99] _ _ hIs (hG.ext hB) (by decide)) ?_)
  rintro e w ⟨rfl, hE⟩
  refine ⟨_, rfl, fun a hk => ?_⟩
  have h1 := ext_at hE h1
  have hB := ext_trans hB hE
  refine la hk rfl (a_alloc hk rfl zr24 fun a w b2 hk G2 => ?_)
  refine la hk rfl (a_storeB hk rfl rfl (bytes_oneA _) (by rw [sz24]; simp [length_sha]) G2.at_ (by simp [length_sha, Value.cells]) fun a w hk W1 => ?_)
  have h1 := W1.keep (G2.ne h1) (ext_at G2.ext h1)
  have hB := W1.below (ext_trans hB G2.ext) (Nat.le_trans hB.size G2.ge)
  have h2 := W1.at_
  clear W1 G2 hE hIs
  refine lnil (hK3 _ _ ?_)
  refine wp_seq_k fun K4 hK4 => ?_
  refine wp_region_lit ?_
  refine la hk rfl (a_lit (cells := #[Str [97], Str []]) (zv := .string ByteArray.empty) (sz := 1) (by_ := 16) hk rfl rfl Tryd.underlying27 el9 (by decide) (by decide) (lit2 _ _ _ rfl rfl) rfl fun a w bl hk GL => ?_)
  have h1 := ext_at GL.ext h1
  have h2 := ext_at GL.ext h2
  have hB := ext_trans hB GL.ext
  have hRs : Rs w (some ⟨bl, 0, none⟩) 2 2 [[97], []] := Rd.of_block GL.at_ rfl (Nat.le_refl _) (fun i hi => by
    have hi' : i < 2 := hi
    match i, hi' with
    | 0, _ => rfl
    | 1, _ => rfl)
  clear GL
  refine la hk rfl (a_call hk rfl rfl (c_fn hk rfl ok35) (c35 8 [[97], []] _ _ _ hRs (hG.ext hB) (by decide) (by decide)) ?_)
  rintro e w ⟨rfl, hE⟩
  refine ⟨_, rfl, fun a hk => ?_⟩
  have hB := ext_trans hB hE
  have h1 := ext_at hE h1
  have h2 := ext_at hE h2
  refine la hk rfl (a_alloc hk rfl zr44 fun a w b3 hk G3 => ?_)
  refine la hk rfl (a_storeB hk rfl rfl (bytes_oneA _) (by rw [sz44]; simp [length_sha]) G3.at_ (by simp [length_sha, Value.cells]) fun a w hk W1 => ?_)
  have h1 := W1.keep (G3.ne h1) (ext_at G3.ext h1)
  have h2 := W1.keep (G3.ne h2) (ext_at G3.ext h2)
  have hB := W1.below (ext_trans hB G3.ext) (Nat.le_trans hB.size G3.ge)
  have h3 := W1.at_
  clear W1 G3 hE hRs
  refine lnil (hK4 _ _ ?_)
  refine wp_seq_k fun K5 hK5 => ?_
  refine wp_region_lit ?_
  refine la hk rfl (a_call hk rfl rfl (c_fn hk rfl ok30) (c30 [74, 101, 102, 101] [119, 104, 97, 116, 32, 100, 111, 32, 121, 97, 32, 119, 97, 110, 116, 32, 102, 111, 114, 32, 110, 111, 116, 104, 105, 110, 103, 63] _ (hG.ext hB) (by decide) (by decide)) ?_)
  rintro e w ⟨rfl, hE⟩
  refine ⟨_, rfl, fun a hk => ?_⟩
  have hB := ext_trans hB hE
  have h1 := ext_at hE h1
  have h2 := ext_at hE h2
  have h3 := ext_at hE h3
  refine ls hk rfl rfl rfl (e_assign hk rfl _) fun a hk => ?_
  refine lnil (hK5 _ _ ?_)
  refine wp_seq_k fun K6 hK6 => ?_
  refine wp_region_lit ?_
  refine la hk rfl (a_call hk rfl rfl (c_fn hk rfl ok43) (c43 [97, 98] [97, 98] _ (by decide)) ?_)
  rintro e w ⟨rfl, hE⟩
  refine ⟨.bool true, rfl, fun a hk => ?_⟩
  have hB := ext_trans hB hE
  have h1 := ext_at hE h1
  have h2 := ext_at hE h2
  have h3 := ext_at hE h3
  refine ls hk rfl rfl rfl (e_assign hk rfl _) fun a hk => ?_
  refine lnil (hK6 _ _ ?_)
  refine wp_seq_k fun K7 hK7 => ?_
  refine wp_region_lit ?_
  refine la hk rfl (a_call hk rfl rfl (c_fn hk rfl ok43) (c43 [97, 98] [97, 99] _ (by decide)) ?_)
  rintro e w ⟨rfl, hE⟩
  refine ⟨.bool false, rfl, fun a hk => ?_⟩
  have hB := ext_trans hB hE
  have h1 := ext_at hE h1
  have h2 := ext_at hE h2
  have h3 := ext_at hE h3
  refine ls hk rfl rfl rfl (e_move hk rfl _) fun a hk => ?_
  refine la hk rfl (a_call hk rfl rfl (c_fn hk rfl ok43) (c43 [] [97] _ (by decide)) ?_)
  rintro e w ⟨rfl, hE⟩
  refine ⟨.bool false, rfl, fun a hk => ?_⟩
  have hB := ext_trans hB hE
  have h1 := ext_at hE h1
  have h2 := ext_at hE h2
  have h3 := ext_at hE h3
  refine ls hk rfl rfl rfl (e_pickF hk rfl rfl _) fun a hk => ?_
  refine ls hk rfl rfl rfl (e_assign hk rfl _) fun a hk => ?_
  refine lnil (hK7 _ _ ?_)
  refine wp_seq_k fun K8 hK8 => ?_
  refine wp_region_lit ?_
  refine ls hk rfl rfl rfl (r_loadB hk rfl h1 Tryd.underlying24 rfl (by rw [sz24]; simp [length_sha])) fun a hk => ?_
  refine la hk rfl (a_call hk rfl rfl (c_fn hk rfl ok32) (c32 (sha [97, 98, 99]) _ (length_sha _)) ?_)
  rintro e w ⟨rfl, hE⟩
  refine ⟨_, rfl, fun a hk => ?_⟩
  have hB := ext_trans hB hE
  have h1 := ext_at hE h1
  have h2 := ext_at hE h2
  have h3 := ext_at hE h3
  refine la hk rfl (a_call hk rfl rfl (c_fn hk rfl ok65) (c65 (sha [97, 98, 99]) _ (by rw [length_sha]; decide)) ?_)
  rintro e w ⟨rfl, hE⟩
  refine ⟨_, rfl, fun a hk => ?_⟩
  have hB := ext_trans hB hE
  have h1 := ext_at hE h1
  have h2 := ext_at hE h2
  have h3 := ext_at hE h3
  refine ls hk rfl rfl rfl (e_seql (s := hexL (sha [97, 98, 99])) (b := true) hk rfl rfl (decide_eq_true hex_abc) _) fun a hk => ?_
  refine ls hk rfl rfl rfl (e_move hk rfl _) fun a hk => ?_
  refine ls hk rfl rfl rfl (r_loadB hk rfl h1 Tryd.underlying24 rfl (by rw [sz24]; simp [length_sha])) fun a hk => ?_
  refine ls hk rfl rfl rfl (r_loadB hk rfl h2 Tryd.underlying24 rfl (by rw [sz24]; simp [length_sha])) fun a hk => ?_
  refine ls hk rfl rfl rfl (e_eqA (l := sha [97, 98, 99]) (r := sha [97, 98, 99]) (b := true) hk rfl rfl Tryd.underlying24 Tryd.underlying5 sz5 (length_sha _) (length_sha _) eg24 (decide_eq_true rfl) _) fun a hk => ?_
  refine ls hk rfl rfl rfl (e_pickT hk rfl rfl _) fun a hk => ?_
  refine ls hk rfl rfl rfl (e_move hk rfl _) fun a hk => ?_
  refine ls hk rfl rfl rfl (e_move hk rfl _) fun a hk => ?_
  refine la hk rfl (a_call hk rfl rfl (c_fn hk rfl ok65) (c65 (mac [74, 101, 102, 101] [119, 104, 97, 116, 32, 100, 111, 32, 121, 97, 32, 119, 97, 110, 116, 32, 102, 111, 114, 32, 110, 111, 116, 104, 105, 110, 103, 63]) _ (by rw [mac_jefe]; decide)) ?_)
  rintro e w ⟨rfl, hE⟩
  refine ⟨_, rfl, fun a hk => ?_⟩
  have hB := ext_trans hB hE
  have h3 := ext_at hE h3
  refine ls hk rfl rfl rfl (e_seql (s := hexL (mac [74, 101, 102, 101] [119, 104, 97, 116, 32, 100, 111, 32, 121, 97, 32, 119, 97, 110, 116, 32, 102, 111, 114, 32, 110, 111, 116, 104, 105, 110, 103, 63])) (b := true) hk rfl rfl (decide_eq_true hex_jefe) _) fun a hk => ?_
  refine ls hk rfl rfl rfl (e_pickT hk rfl rfl _) fun a hk => ?_
  refine ls hk rfl rfl rfl (e_move hk rfl _) fun a hk => ?_
  refine ls hk rfl rfl rfl (r_loadB hk rfl h3 Tryd.underlying44 rfl (by rw [sz44]; simp [length_sha])) fun a hk => ?_
  refine la hk rfl (a_call hk rfl rfl (c_fn hk rfl ok66) (c66 ((sha (ofIn 8 [[97], []])).take 16) _ (by simp [length_sha])) ?_)
  rintro e w ⟨rfl, hE⟩
  refine ⟨_, rfl, fun a hk => ?_⟩
  have hB := ext_trans hB hE
  refine la hk rfl (a_call hk rfl rfl (c_fn hk rfl ok65) (c65 ((sha (ofIn 8 [[97], []])).take 16) _ (by simp [length_sha])) ?_)
  rintro e w ⟨rfl, hE⟩
  refine ⟨_, rfl, fun a hk => ?_⟩
  have hB := ext_trans hB hE
  refine ls hk rfl rfl rfl (e_seql (s := hexL ((sha (ofIn 8 [[97], []])).take 16)) (b := true) hk rfl rfl (decide_eq_true hex_of) _) fun a hk => ?_
  refine ls hk rfl rfl rfl (e_pickT hk rfl rfl _) fun a hk => ?_
  refine ls hk rfl rfl rfl (e_move hk rfl _) fun a hk => ?_
  refine ls hk rfl rfl rfl (e_move hk rfl _) fun a hk => ?_
  refine ls hk rfl rfl rfl (e_pickT hk rfl rfl _) fun a hk => ?_
  refine ls hk rfl rfl rfl (e_move hk rfl _) fun a hk => ?_
  refine ls hk rfl rfl rfl (e_move hk rfl _) fun a hk => ?_
  refine ls hk rfl rfl rfl (e_notF hk rfl _) fun a hk => ?_
  refine ls hk rfl rfl rfl (e_pickT hk rfl rfl _) fun a hk => ?_
  refine ls hk rfl rfl rfl (e_assign hk rfl _) fun a hk => ?_
  refine lnil (hK8 _ _ ?_)
  refine wp_ret ?_
  exact ret1 hk rfl rfl ⟨rfl, hB⟩

end Go.Proofs.YtidfbboalbchiaaDoor

namespace Go.Proofs.YtidfbboalbchiaaDoor
open Go Go.ChangeShapes Go.WideShapes Go.ChangeAt Go.RowKit

theorem Tryd.own : ownKnob Tryd.prog.godebug = none := by kernel_rfl
theorem Tryd.laidOut : laidOutB Tryd.prog = true := by kernel_rfl
def laid1 : List (String × DataW Unit) := [("diorama/hash.constants", Rows.laid_diorama_hash_constants)]
def laid2 : List (String × DataW Unit) := [("diorama/dioramaref02.constants", Rows.laid_diorama_dioramaref02_constants), ("diorama/hash.constants", Rows.laid_diorama_hash_constants)]
theorem gHash : Tryd.prog.globalNamed "diorama/hash.constants" = some 1 := by kernel_rfl
theorem gRef : Tryd.prog.globalNamed "diorama/dioramaref02.constants" = some 0 := by kernel_rfl
theorem tHash : (Tryd.prog.globals[1]?).map (·.type) = some 100 := by kernel_rfl
theorem tRef : (Tryd.prog.globals[0]?).map (·.type) = some 100 := by kernel_rfl
theorem laid_hash {H : Type} : (Rows.laid_diorama_hash_constants : DataW H) = .agg (kc.map fun x => .lit (.int .u32 (x.toNat : Int))) := by kernel_rfl
theorem laid_ref {H : Type} : (Rows.laid_diorama_dioramaref02_constants : DataW H) = .agg (kc.map fun x => .lit (.int .u32 (x.toNat : Int))) := by kernel_rfl
theorem c29' : Tryd.prog.cellsOf 29 = 1 := by kernel_rfl
theorem door_met1 (os : Os) (args : Array Value) : laidMetH Tryd.prog laid1 ((World.doorLaid Tryd.prog 19 os).forCall (fun _ _ => 0) ⟨#[], args, []⟩).memory :=
  laidMetH_of_parts3 (fuel := 8) (laidMet_of_run' 8 (by kernel_rfl) (by kernel_rfl)) (by kernel_rfl) (by kernel_rfl)
theorem door_met2 (os : Os) (args : Array Value) : laidMetH Tryd.prog laid2 ((World.doorLaid Tryd.prog 19 os).forCall (fun _ _ => 0) ⟨#[], args, []⟩).memory :=
  laidMetH_of_parts3 (fuel := 8) (laidMet_of_run' 8 (by kernel_rfl) (by kernel_rfl)) (by kernel_rfl) (by kernel_rfl)

/-- A laid table's cells. -/
theorem table_of {H : Type} {enc : TypeId × Value → H} {w : World} {g base fuel : Nat} {sp : Nat → Bool} {held : Bool} {cs : Array Value} {ps : List MemPlace} (hv : ∀ i, w.cell? ⟨g, i, none⟩ = cs[i]?)
    (hd : DataW.trod enc Tryd.prog w base sp held fuel 100 cs.toList = some (.agg (kc.map fun x => .lit (.int .u32 (x.toNat : Int))), ps)) : w.rangeAt g 0 (kc.map W) := by
  obtain ⟨xs, m, rfl, hx, _, hn, hel⟩ := DataW.trod_array Tryd.underlying100 hd
  simp only [Prod.mk.injEq, DataW.agg.injEq] at hx
  intro i u hu
  rw [List.getElem?_map] at hu
  have hi : i < 64 := by
    cases hq : kc[i]? with
    | none => rw [hq] at hu; cases hu
    | some v => exact (List.getElem?_eq_some_iff.1 hq).1
  have hk : kc[i]? = some (kc[i]'hi) := List.getElem?_eq_getElem hi
  rw [hk] at hu
  obtain rfl : W (kc[i]'hi) = u := by simpa using hu
  have h1 := hel i hi
  rw [c29', Nat.mul_one] at h1
  have h2 : (xs.map (·.1))[i]? = some (.lit (.int .u32 ((kc[i]'hi).toNat : Int))) := by rw [← hx.1, List.getElem?_map, hk]; rfl
  rw [List.getElem?_map] at h2
  cases hq : xs[i]? with
  | none => rw [hq] at h2; cases h2
  | some x =>
    rw [hq] at h1 h2
    obtain ⟨n, e1, e2, _⟩ := DataW.trod_int Tryd.underlying29 h1
    subst e2
    have hn' : n = ((kc[i]'hi).toNat : Int) := by simpa using h2
    subst hn'
    rw [Nat.zero_add, hv i]
    have h3 : ((cs.toList.drop i).take 1)[0]? = some (W (kc[i]'hi)) := by rw [e1]; rfl
    rw [List.getElem?_take, if_pos (by decide), List.getElem?_drop, Nat.add_zero] at h3
    simpa using h3

/-- What the condition gives. -/
theorem GH_of_laid1 {w : World} (h : laidMetH Tryd.prog laid1 w) : GH w := by
  rw [MakeChecks.laidMetH_plain _ _ _ (by kernel_rfl)] at h
  obtain ⟨ps, ⟨g0, t0, cs0, f0, p0, q0, hg0, ht0, hv0, hd0, _, _⟩, _, _⟩ := h
  obtain rfl := Option.some.inj (gHash.symm.trans hg0)
  obtain rfl := Option.some.inj (tHash.symm.trans ht0)
  rw [laid_hash] at hd0
  exact table_of (World.var?_cell hg0 hv0) hd0
def GR (w : World) : Prop := w.rangeAt 0 0 (kc.map W)
theorem GR.ext {w w' : World} (h : GR w) (hE : Ext w w') : GR w' := range_ext hE h
theorem GH_of_laid2 {w : World} (h : laidMetH Tryd.prog laid2 w) : GH w ∧ GR w := by
  rw [MakeChecks.laidMetH_plain _ _ _ (by kernel_rfl)] at h
  obtain ⟨ps, ⟨g0, t0, cs0, f0, p0, q0, hg0, ht0, hv0, hd0, ⟨g1, t1, cs1, f1, p1, q1, hg1, ht1, hv1, hd1, _, _⟩, _⟩, _, _⟩ := h
  obtain rfl := Option.some.inj (gRef.symm.trans hg0)
  obtain rfl := Option.some.inj (gHash.symm.trans hg1)
  obtain rfl := Option.some.inj (tRef.symm.trans ht0)
  obtain rfl := Option.some.inj (tHash.symm.trans ht1)
  rw [laid_ref] at hd0
  rw [laid_hash] at hd1
  exact ⟨table_of (World.var?_cell hg1 hv1) hd1, table_of (World.var?_cell hg0 hv0) hd0⟩
/-- A string, as it comes in. -/
theorem str_of (s : ByteArray) : (Value.string s) = Str s.data.toList := rfl
end Go.Proofs.YtidfbboalbchiaaDoor

namespace Go.Proofs.YtidfbboalbchiaaDoor
open Go Go.RowKit

theorem c69 (x : UInt32) (n : Nat) (h0 : 0 < n) (h : n < 32) (w0 : World) : Calls Tryd.prog 69 #[W x, I n] w0 fun e w' => e = .returned (W (rotr x n)) ∧ Ext w0 w' := by
  refine start 13 Tryd.func69 rfl rfl rfl fun a hk => ?_
  refine wp_seq_k fun K1 hK1 => ?_
  refine wp_region_lit ?_
  refine ls hk rfl rfl rfl (e_assign hk rfl _) fun a hk => ?_
  refine lnil (hK1 _ _ ?_)
  refine wp_seq_k fun K2 hK2 => ?_
  refine wp_region_ok (fun _ => True) [0, 0, 0, 0, 0, 0, 0, 0, 0] mixed ?_
  refine d0 0 hk rfl (by kernel_rfl) rfl rfl rfl rfl (fun _ => e_move hk rfl _) fun a hk => ?_
  refine d0 1 hk rfl (by kernel_rfl) rfl rfl rfl rfl (fun _ => e_move hk rfl _) fun a hk => ?_
  refine d0 2 hk rfl (by kernel_rfl) rfl rfl rfl rfl (fun _ => e_shr hk rfl rfl (by omega) (w_shr _ _ (by omega)) _) fun a hk => ?_
  refine d0 3 hk rfl (by kernel_rfl) rfl rfl rfl rfl (fun _ => e_move hk rfl _) fun a hk => ?_
  refine d0 4 hk rfl (by kernel_rfl) rfl rfl rfl rfl (fun _ => e_move hk rfl _) fun a hk => ?_
  refine d0 5 hk rfl (by kernel_rfl) rfl rfl rfl rfl (fun _ => e_sub (q := ((32 - n : Nat) : Int)) hk rfl rfl (by rw [i64 (by omega) (by omega)]; omega) _) fun a hk => ?_
  refine d0 6 hk rfl (by kernel_rfl) rfl rfl rfl rfl (fun _ => e_shl hk rfl rfl (by omega) (w_shl _ _ (by omega)) _) fun a hk => ?_
  refine d0 7 hk rfl (by kernel_rfl) rfl rfl rfl rfl (fun _ => e_or hk rfl rfl (w_or _ _) _) fun a hk => ?_
  refine d0 8 hk rfl (by kernel_rfl) rfl rfl rfl rfl (fun _ => e_assign hk rfl _) fun a hk => ?_
  refine okFin (by kernel_rfl) (hK2 _ _ ?_)
  refine wp_ret ?_
  refine ret1 hk rfl rfl ⟨?_, ext_drew _⟩
  simp only [Int.toNat_natCast]
  rw [rotr, UInt32.or_comm]

theorem word_or (p q r s : UInt8) : word [p, q, r, s] = ((p.toUInt32 <<< UInt32.ofNat 24 ||| q.toUInt32 <<< UInt32.ofNat 16) ||| r.toUInt32 <<< UInt32.ofNat 8) ||| s.toUInt32 := by
  apply UInt32.toNat.inj
  rw [word4]
  have hb : ∀ x : UInt8, x.toNat < 256 := fun x => x.toNat_lt
  have hp := hb p; have hq := hb q; have hr := hb r; have hs := hb s
  simp only [UInt32.toNat_or, UInt32.toNat_shiftLeft, UInt8.toNat_toUInt32]
  rw [show (UInt32.ofNat 24).toNat % 32 = 24 from rfl, show (UInt32.ofNat 16).toNat % 32 = 16 from rfl, show (UInt32.ofNat 8).toNat % 32 = 8 from rfl]
  rw [Nat.mod_eq_of_lt (by rw [Nat.shiftLeft_eq]; omega), Nat.mod_eq_of_lt (by rw [Nat.shiftLeft_eq]; omega), Nat.mod_eq_of_lt (by rw [Nat.shiftLeft_eq]; omega)]
  rw [← Nat.shiftLeft_add_eq_or_of_lt (b := q.toNat <<< 16) (i := 24) (by rw [Nat.shiftLeft_eq]; omega)]
  rw [show p.toNat <<< 24 + q.toNat <<< 16 = (p.toNat * 256 + q.toNat) <<< 16 by simp only [Nat.shiftLeft_eq]; omega]
  rw [← Nat.shiftLeft_add_eq_or_of_lt (b := r.toNat <<< 8) (i := 16) (by rw [Nat.shiftLeft_eq]; omega)]
  rw [show (p.toNat * 256 + q.toNat) <<< 16 + r.toNat <<< 8 = ((p.toNat * 256 + q.toNat) * 256 + r.toNat) <<< 8 by simp only [Nat.shiftLeft_eq]; omega]
  rw [← Nat.shiftLeft_add_eq_or_of_lt (b := s.toNat) (i := 8) (by omega)]
  simp only [Nat.shiftLeft_eq]; omega
theorem word_at (bs : List UInt8) (j : Nat) (h : 4 * j + 4 ≤ bs.length) : word ((bs.drop (4 * j)).take 4) = ((((bs.getD (4 * j) 0).toUInt32 <<< UInt32.ofNat 24 ||| (bs.getD (4 * j + 1) 0).toUInt32 <<< UInt32.ofNat 16) ||| (bs.getD (4 * j + 2) 0).toUInt32 <<< UInt32.ofNat 8) ||| (bs.getD (4 * j + 3) 0).toUInt32) := by
  have e : (bs.drop (4 * j)).take 4 = [bs.getD (4 * j) 0, bs.getD (4 * j + 1) 0, bs.getD (4 * j + 2) 0, bs.getD (4 * j + 3) 0] := by
    apply List.ext_getElem?
    intro i
    rw [List.getElem?_take]
    by_cases hi : i < 4
    · rw [if_pos hi, List.getElem?_drop]
      have : i = 0 ∨ i = 1 ∨ i = 2 ∨ i = 3 := by omega
      rcases this with rfl | rfl | rfl | rfl
      · simp [show 4 * j < bs.length by omega]
      · simp [show 4 * j + 1 < bs.length by omega]
      · simp [show 4 * j + 2 < bs.length by omega]
      · simp [show 4 * j + 3 < bs.length by omega]
    · rw [if_neg hi]
      simp; omega
  rw [e, word_or]

set_option maxRecDepth 4000 in
set_option maxHeartbeats 1000000 in
theorem c68 (bs : List UInt8) (bb oo cc : Nat) (w0 : World) (hl : bs.length = 64) (hR : Rd w0 (some ⟨bb, oo, none⟩) 64 cc 1 (bs.map B)) :
    Calls Tryd.prog 68 #[.slice (some ⟨bb, oo, none⟩) 64 cc] w0 fun e w' => e = .returned (.agg ((sched bs 64).map W).toArray) ∧ Ext w0 w' := by
  refine start 101 Tryd.func68 rfl rfl rfl fun a hk => ?_
  refine wp_seq_k fun K1 hK1 => ?_
  refine wp_region_lit ?_
  refine la hk rfl (a_alloc hk rfl zr100 fun a w b2 hk G2 => ?_)
  refine lnil (hK1 _ _ ?_)
  refine wp_seq_k fun K2 hK2 => ?_
  refine wp_region_lit ?_
  refine la hk rfl (a_alloc hk rfl zr100 fun a w b3 hk G3 => ?_)
  refine lnil (hK2 _ _ ?_)
  refine wp_seq_k fun K3 hK3 => ?_
  refine wp_seq_k fun K4 hK4 => ?_
  have hB : Below w0.heap.size w0 w := ext_trans G2.ext G3.ext
  have h2 := ext_at G3.ext G2.at_
  have h3 : w.heap[b3]? = some (.cells ((sched bs 0 ++ List.replicate (64 - 0) 0).map W).toArray 100 (0, 0)) := G3.at_
  have hne : b2 ≠ b3 := G3.ne G2.at_
  have hg2 := G2.ge
  have hg3 : w0.heap.size ≤ b3 := Nat.le_trans G2.ext.size G3.ge
  have hcc := hR.2.1
  clear G2 G3
  refine wp_region_lit ?_
  refine ls hk rfl rfl rfl (e_assign hk rfl _) fun a hk => ?_
  refine lnil (hK4 _ _ ?_)
  refine wp_block ?_
  refine loopN (fun n a w => ∃ j : Nat, n = 16 - j ∧ j ≤ 16 ∧ Kn a 101 [(0, .slice (some ⟨bb, oo, none⟩) 64 cc), (2, .pointer (some ⟨b2, 0, none⟩)), (3, .pointer (some ⟨b3, 0, none⟩)), (4, I j)] ∧ Below w0.heap.size w0 w ∧ (∃ z, w.heap[b2]? = some (.cells z 100 (0, 0)) ∧ z.size = 64) ∧ w.heap[b3]? = some (.cells ((sched bs j ++ List.replicate (64 - j) 0).map W).toArray 100 (0, 0))) (16) ?_ fun n a w hI => ?_
  · exact ⟨0, rfl, by omega, hk.sub _ ⟨rfl, rfl, rfl, rfl, trivial⟩, hB, ⟨_, h2, rfl⟩, h3⟩
  clear hB h2 h3
  obtain ⟨j, rfl, hj, hk, hB, ⟨z, h2, hz⟩, h3⟩ := hI
  refine wp_seq_k fun K5 hK5 => ?_
  refine wp_seq_k fun K6 hK6 => ?_
  refine wp_region_lit ?_
  refine ls hk rfl rfl rfl (e_move hk rfl _) fun a hk => ?_
  refine ls hk rfl rfl rfl (e_lss hk rfl rfl rfl _) fun a hk => ?_
  refine lnil (hK6 _ _ ?_)
  refine cdB hk rfl (fun hb => ?_) (fun hb => ?_)
  · have hj1 : j < 16 := by have := of_decide_eq_true hb; omega
    refine wp_skip (hK5 _ _ ?_)
    refine wp_seq_k fun K7 hK7 => ?_
    refine wp_block ?_
    refine wp_region_ok (fun _ => True) [0, 0, 0, 0, 0, 1, 0, 0, 0, 0, 0, 0, 0, 1, 0, 0, 0, 0, 0, 0, 0, 0, 1, 0, 0, 0, 0, 0, 0, 0, 0, 1, 0, 0, 0, 2] mixed ?_
    have hB := hB.drew
    have h2 : w.drew.heap[b2]? = _ := h2
    have h3 : w.drew.heap[b3]? = _ := h3
    refine d0 0 hk rfl (by kernel_rfl) rfl rfl rfl rfl (fun _ => e_move hk rfl _) fun a hk => ?_
    refine d0 1 hk rfl (by kernel_rfl) rfl rfl rfl rfl (fun _ => e_move hk rfl _) fun a hk => ?_
    refine d0 2 hk rfl (by kernel_rfl) rfl rfl rfl rfl (fun _ => e_move hk rfl _) fun a hk => ?_
    refine d0 3 hk rfl (by kernel_rfl) rfl rfl rfl rfl (fun _ => e_mul (q := ((4 * j : Nat) : Int)) hk rfl rfl (by rw [i64 (by omega) (by omega)]; omega) _) fun a hk => ?_
    refine d0 4 hk rfl (by kernel_rfl) rfl rfl rfl rfl (fun _ => e_idxS1 (4 * j) hk rfl rfl Tryd.underlying22 sz5 rfl (by omega) _) fun a hk => ?_
    refine d1 5 hk rfl (by kernel_rfl) rfl rfl rfl rfl (r_load1 (v := B (bs.getD (4 * j) 0)) hk rfl Tryd.underlying5 rfl (ext_cell hB (bytes_at hR (4 * j) _ (by omega) (by omega)))) fun a hk => ?_
    refine d0 6 hk rfl (by kernel_rfl) rfl rfl rfl rfl (fun _ => e_conv hk rfl Tryd.underlying5 Tryd.underlying29 (b_w _) _) fun a hk => ?_
    refine d0 7 hk rfl (by kernel_rfl) rfl rfl rfl rfl (fun _ => e_shl hk rfl rfl (by decide) (w_shl _ 24 (by decide)) _) fun a hk => ?_
    refine d0 8 hk rfl (by kernel_rfl) rfl rfl rfl rfl (fun _ => e_move hk rfl _) fun a hk => ?_
    refine d0 9 hk rfl (by kernel_rfl) rfl rfl rfl rfl (fun _ => e_move hk rfl _) fun a hk => ?_
    refine d0 10 hk rfl (by kernel_rfl) rfl rfl rfl rfl (fun _ => e_mul (q := ((4 * j : Nat) : Int)) hk rfl rfl (by rw [i64 (by omega) (by omega)]; omega) _) fun a hk => ?_
    refine d0 11 hk rfl (by kernel_rfl) rfl rfl rfl rfl (fun _ => e_add (q := ((4 * j + 1 : Nat) : Int)) hk rfl rfl (by rw [i64 (by omega) (by omega)]; omega) _) fun a hk => ?_
    refine d0 12 hk rfl (by kernel_rfl) rfl rfl rfl rfl (fun _ => e_idxS1 (4 * j + 1) hk rfl rfl Tryd.underlying22 sz5 rfl (by omega) _) fun a hk => ?_
    refine d1 13 hk rfl (by kernel_rfl) rfl rfl rfl rfl (r_load1 (v := B (bs.getD (4 * j + 1) 0)) hk rfl Tryd.underlying5 rfl (ext_cell hB (bytes_at hR (4 * j + 1) _ (by omega) (by omega)))) fun a hk => ?_
    refine d0 14 hk rfl (by kernel_rfl) rfl rfl rfl rfl (fun _ => e_conv hk rfl Tryd.underlying5 Tryd.underlying29 (b_w _) _) fun a hk => ?_
    refine d0 15 hk rfl (by kernel_rfl) rfl rfl rfl rfl (fun _ => e_shl hk rfl rfl (by decide) (w_shl _ 16 (by decide)) _) fun a hk => ?_
    refine d0 16 hk rfl (by kernel_rfl) rfl rfl rfl rfl (fun _ => e_or hk rfl rfl (w_or _ _) _) fun a hk => ?_
    refine d0 17 hk rfl (by kernel_rfl) rfl rfl rfl rfl (fun _ => e_move hk rfl _) fun a hk => ?_
    refine d0 18 hk rfl (by kernel_rfl) rfl rfl rfl rfl (fun _ => e_move hk rfl _) fun a hk => ?_
    refine d0 19 hk rfl (by kernel_rfl) rfl rfl rfl rfl (fun _ => e_mul (q := ((4 * j : Nat) : Int)) hk rfl rfl (by rw [i64 (by omega) (by omega)]; omega) _) fun a hk => ?_
    refine d0 20 hk rfl (by kernel_rfl) rfl rfl rfl rfl (fun _ => e_add (q := ((4 * j + 2 : Nat) : Int)) hk rfl rfl (by rw [i64 (by omega) (by omega)]; omega) _) fun a hk => ?_
    refine d0 21 hk rfl (by kernel_rfl) rfl rfl rfl rfl (fun _ => e_idxS1 (4 * j + 2) hk rfl rfl Tryd.underlying22 sz5 rfl (by omega) _) fun a hk => ?_
    refine d1 22 hk rfl (by kernel_rfl) rfl rfl rfl rfl (r_load1 (v := B (bs.getD (4 * j + 2) 0)) hk rfl Tryd.underlying5 rfl (ext_cell hB (bytes_at hR (4 * j + 2) _ (by omega) (by omega)))) fun a hk => ?_
    refine d0 23 hk rfl (by kernel_rfl) rfl rfl rfl rfl (fun _ => e_conv hk rfl Tryd.underlying5 Tryd.underlying29 (b_w _) _) fun a hk => ?_
    refine d0 24 hk rfl (by kernel_rfl) rfl rfl rfl rfl (fun _ => e_shl hk rfl rfl (by decide) (w_shl _ 8 (by decide)) _) fun a hk => ?_
    refine d0 25 hk rfl (by kernel_rfl) rfl rfl rfl rfl (fun _ => e_or hk rfl rfl (w_or _ _) _) fun a hk => ?_
    refine d0 26 hk rfl (by kernel_rfl) rfl rfl rfl rfl (fun _ => e_move hk rfl _) fun a hk => ?_
    refine d0 27 hk rfl (by kernel_rfl) rfl rfl rfl rfl (fun _ => e_move hk rfl _) fun a hk => ?_
    refine d0 28 hk rfl (by kernel_rfl) rfl rfl rfl rfl (fun _ => e_mul (q := ((4 * j : Nat) : Int)) hk rfl rfl (by rw [i64 (by omega) (by omega)]; omega) _) fun a hk => ?_
    refine d0 29 hk rfl (by kernel_rfl) rfl rfl rfl rfl (fun _ => e_add (q := ((4 * j + 3 : Nat) : Int)) hk rfl rfl (by rw [i64 (by omega) (by omega)]; omega) _) fun a hk => ?_
    refine d0 30 hk rfl (by kernel_rfl) rfl rfl rfl rfl (fun _ => e_idxS1 (4 * j + 3) hk rfl rfl Tryd.underlying22 sz5 rfl (by omega) _) fun a hk => ?_
    refine d1 31 hk rfl (by kernel_rfl) rfl rfl rfl rfl (r_load1 (v := B (bs.getD (4 * j + 3) 0)) hk rfl Tryd.underlying5 rfl (ext_cell hB (bytes_at hR (4 * j + 3) _ (by omega) (by omega)))) fun a hk => ?_
    refine d0 32 hk rfl (by kernel_rfl) rfl rfl rfl rfl (fun _ => e_conv hk rfl Tryd.underlying5 Tryd.underlying29 (b_w _) _) fun a hk => ?_
    refine d0 33 hk rfl (by kernel_rfl) rfl rfl rfl rfl (fun _ => e_or hk rfl rfl (w_or _ _) _) fun a hk => ?_
    refine d0 34 hk rfl (by kernel_rfl) rfl rfl rfl rfl (fun _ => e_idxA1 j hk rfl rfl Tryd.underlying100 sz29 rfl (by omega) _) fun a hk => ?_
    refine da 35 hk rfl (by kernel_rfl) rfl rfl (a_store hk rfl rfl rfl sz29 h3 (by simp [length_sched]; omega) fun a w hk W5 => ?_)
    have hB := W5.below hB hg3
    have h2 := W5.keep hne h2
    have h3 : w.heap[b3]? = some (.cells ((sched bs (j + 1) ++ List.replicate (64 - (j + 1)) 0).map W).toArray 100 (0, 0)) := by
      have h := W5.at_
      rw [show 64 - j = (63 - j) + 1 by omega, List.replicate_succ, show sched bs j ++ 0 :: List.replicate (63 - j) 0 = sched bs j ++ [0] ++ List.replicate (63 - j) 0 by simp,
        words_set _ _ _ _ _ (by rw [length_sched]; omega)] at h
      rw [h, show 64 - (j + 1) = 63 - j by omega, sched, if_pos hj1, word_at bs j (by omega)]
    clear W5
    refine okFin (by kernel_rfl) (hK7 _ _ ?_)
    refine wp_region_lit ?_
    refine ls hk rfl rfl rfl (e_move hk rfl _) fun a hk => ?_
    refine ls hk rfl rfl rfl (e_add hk rfl rfl (i64 (by omega) (by omega)) _) fun a hk => ?_
    refine ls hk rfl rfl rfl (e_assign hk rfl _) fun a hk => ?_
    refine lnil (show ∃ m : Nat, m < _ ∧ _ from ⟨16 - (j + 1), by omega, j + 1, rfl, by omega, hk.sub _ ⟨rfl, rfl, rfl, rfl, trivial⟩, hB, ⟨_, h2, hz⟩, h3⟩)
  · have hj1 : j = 16 := by have := of_decide_eq_false hb; omega
    subst hj1
    refine wp_exit (hK3 _ _ ?_)
    refine wp_seq_k fun K8 hK8 => ?_
    refine wp_seq_k fun K9 hK9 => ?_
    refine wp_region_lit ?_
    refine ls hk rfl rfl rfl (e_assign hk rfl _) fun a hk => ?_
    refine lnil (hK9 _ _ ?_)
    refine wp_block ?_
    refine loopN (fun n a w => ∃ j : Nat, n = 64 - j ∧ 16 ≤ j ∧ j ≤ 64 ∧ Kn a 101 [(0, .slice (some ⟨bb, oo, none⟩) 64 cc), (2, .pointer (some ⟨b2, 0, none⟩)), (3, .pointer (some ⟨b3, 0, none⟩)), (5, I j)] ∧ Below w0.heap.size w0 w ∧ (∃ z, w.heap[b2]? = some (.cells z 100 (0, 0)) ∧ z.size = 64) ∧ w.heap[b3]? = some (.cells ((sched bs j ++ List.replicate (64 - j) 0).map W).toArray 100 (0, 0))) (48) ?_ fun n a w hI => ?_
    · exact ⟨16, rfl, by omega, by omega, hk.sub _ ⟨rfl, rfl, rfl, rfl, trivial⟩, hB, ⟨_, h2, hz⟩, h3⟩
    clear hB h2 h3 hz
    obtain ⟨j, rfl, h16, hj, hk, hB, ⟨z, h2, hz⟩, h3⟩ := hI
    refine wp_seq_k fun K10 hK10 => ?_
    refine wp_seq_k fun K11 hK11 => ?_
    refine wp_region_lit ?_
    refine ls hk rfl rfl rfl (e_move hk rfl _) fun a hk => ?_
    refine ls hk rfl rfl rfl (e_lss hk rfl rfl rfl _) fun a hk => ?_
    refine lnil (hK11 _ _ ?_)
    refine cdB hk rfl (fun hb => ?_) (fun hb => ?_)
    · have hj1 : j < 64 := by have := of_decide_eq_true hb; omega
      refine wp_skip (hK10 _ _ ?_)
      refine wp_seq_k fun K12 hK12 => ?_
      refine wp_block ?_
      refine wp_seq_k fun K13 hK13 => ?_
      refine wp_region_ok (fun w => w.heap[b3]? = some (.cells ((sched bs j ++ List.replicate (64 - j) 0).map W).toArray 100 (0, 0))) [0, 0, 0, 3, 4, 0, 0, 0, 3, 4, 0, 0, 0, 0, 3, 0, 0, 0] mixed ?_
      have hB := hB.drew
      have h2 := ext_at (ext_drew w) h2
      have hS := ext_at (ext_drew w) h3
      refine d0 0 hk rfl (by kernel_rfl) rfl rfl rfl rfl (fun _ => e_move hk rfl _) fun a hk => ?_
      refine d0 1 hk rfl (by kernel_rfl) rfl rfl rfl rfl (fun _ => e_sub (q := ((j - 15 : Nat) : Int)) hk rfl rfl (by rw [i64 (by omega) (by omega)]; omega) _) fun a hk => ?_
      refine d0 2 hk rfl (by kernel_rfl) rfl rfl rfl rfl (fun _ => e_idxA1 (j - 15) hk rfl rfl Tryd.underlying100 sz29 rfl (by omega) _) fun a hk => ?_
      refine d3 3 hk rfl (by kernel_rfl) rfl rfl rfl rfl hS (fun w hS => r_load (v := W ((sched bs j).getD (j - 15) 0)) hk rfl Tryd.underlying29 rfl hS (words_at _ _ _ (j - 15) (by omega) (by rw [length_sched]; omega))) fun a hk => ?_
      refine da4 4 hk rfl (by kernel_rfl) rfl rfl hS (a_call hk rfl rfl (c_fn hk rfl ok69) (c69 _ 7 (by decide) (by decide) _) ?_)
      rintro e w ⟨rfl, hE⟩
      refine ⟨_, rfl, fun a hk => ⟨ext_at hE hS, ?_⟩⟩
      have hS := ext_at hE hS
      have h2 := ext_at hE h2
      have hB := ext_trans hB hE
      clear hE
      refine d0 5 hk rfl (by kernel_rfl) rfl rfl rfl rfl (fun _ => e_move hk rfl _) fun a hk => ?_
      refine d0 6 hk rfl (by kernel_rfl) rfl rfl rfl rfl (fun _ => e_sub (q := ((j - 15 : Nat) : Int)) hk rfl rfl (by rw [i64 (by omega) (by omega)]; omega) _) fun a hk => ?_
      refine d0 7 hk rfl (by kernel_rfl) rfl rfl rfl rfl (fun _ => e_idxA1 (j - 15) hk rfl rfl Tryd.underlying100 sz29 rfl (by omega) _) fun a hk => ?_
      refine d3 8 hk rfl (by kernel_rfl) rfl rfl rfl rfl hS (fun w hS => r_load (v := W ((sched bs j).getD (j - 15) 0)) hk rfl Tryd.underlying29 rfl hS (words_at _ _ _ (j - 15) (by omega) (by rw [length_sched]; omega))) fun a hk => ?_
      refine da4 9 hk rfl (by kernel_rfl) rfl rfl hS (a_call hk rfl rfl (c_fn hk rfl ok69) (c69 _ 18 (by decide) (by decide) _) ?_)
      rintro e w ⟨rfl, hE⟩
      refine ⟨_, rfl, fun a hk => ⟨ext_at hE hS, ?_⟩⟩
      have hS := ext_at hE hS
      have h2 := ext_at hE h2
      have hB := ext_trans hB hE
      clear hE
      refine d0 10 hk rfl (by kernel_rfl) rfl rfl rfl rfl (fun _ => e_xor hk rfl rfl (w_xor _ _) _) fun a hk => ?_
      refine d0 11 hk rfl (by kernel_rfl) rfl rfl rfl rfl (fun _ => e_move hk rfl _) fun a hk => ?_
      refine d0 12 hk rfl (by kernel_rfl) rfl rfl rfl rfl (fun _ => e_sub (q := ((j - 15 : Nat) : Int)) hk rfl rfl (by rw [i64 (by omega) (by omega)]; omega) _) fun a hk => ?_
      refine d0 13 hk rfl (by kernel_rfl) rfl rfl rfl rfl (fun _ => e_idxA1 (j - 15) hk rfl rfl Tryd.underlying100 sz29 rfl (by omega) _) fun a hk => ?_
      refine d3 14 hk rfl (by kernel_rfl) rfl rfl rfl rfl hS (fun w hS => r_load (v := W ((sched bs j).getD (j - 15) 0)) hk rfl Tryd.underlying29 rfl hS (words_at _ _ _ (j - 15) (by omega) (by rw [length_sched]; omega))) fun a hk => ?_
      refine d0 15 hk rfl (by kernel_rfl) rfl rfl rfl rfl (fun _ => e_shr hk rfl rfl (by decide) (w_shr _ 3 (by decide)) _) fun a hk => ?_
      refine d0 16 hk rfl (by kernel_rfl) rfl rfl rfl rfl (fun _ => e_xor hk rfl rfl (w_xor _ _) _) fun a hk => ?_
      refine d0 17 hk rfl (by kernel_rfl) rfl rfl rfl rfl (fun _ => e_assign hk rfl _) fun a hk => ?_
      have h3 := hS
      clear hS
      refine okFin (by kernel_rfl) (hK13 _ _ ?_)
      refine wp_seq_k fun K14 hK14 => ?_
      refine wp_region_ok (fun w => w.heap[b3]? = some (.cells ((sched bs j ++ List.replicate (64 - j) 0).map W).toArray 100 (0, 0))) [0, 0, 0, 3, 4, 0, 0, 0, 3, 4, 0, 0, 0, 0, 3, 0, 0, 0] mixed ?_
      have hB := hB.drew
      have h2 := ext_at (ext_drew w) h2
      have hS := ext_at (ext_drew w) h3
      refine d0 0 hk rfl (by kernel_rfl) rfl rfl rfl rfl (fun _ => e_move hk rfl _) fun a hk => ?_
      refine d0 1 hk rfl (by kernel_rfl) rfl rfl rfl rfl (fun _ => e_sub (q := ((j - 2 : Nat) : Int)) hk rfl rfl (by rw [i64 (by omega) (by omega)]; omega) _) fun a hk => ?_
      refine d0 2 hk rfl (by kernel_rfl) rfl rfl rfl rfl (fun _ => e_idxA1 (j - 2) hk rfl rfl Tryd.underlying100 sz29 rfl (by omega) _) fun a hk => ?_
      refine d3 3 hk rfl (by kernel_rfl) rfl rfl rfl rfl hS (fun w hS => r_load (v := W ((sched bs j).getD (j - 2) 0)) hk rfl Tryd.underlying29 rfl hS (words_at _ _ _ (j - 2) (by omega) (by rw [length_sched]; omega))) fun a hk => ?_
      refine da4 4 hk rfl (by kernel_rfl) rfl rfl hS (a_call hk rfl rfl (c_fn hk rfl ok69) (c69 _ 17 (by decide) (by decide) _) ?_)
      rintro e w ⟨rfl, hE⟩
      refine ⟨_, rfl, fun a hk => ⟨ext_at hE hS, ?_⟩⟩
      have hS := ext_at hE hS
      have h2 := ext_at hE h2
      have hB := ext_trans hB hE
      clear hE
      refine d0 5 hk rfl (by kernel_rfl) rfl rfl rfl rfl (fun _ => e_move hk rfl _) fun a hk => ?_
      refine d0 6 hk rfl (by kernel_rfl) rfl rfl rfl rfl (fun _ => e_sub (q := ((j - 2 : Nat) : Int)) hk rfl rfl (by rw [i64 (by omega) (by omega)]; omega) _) fun a hk => ?_
      refine d0 7 hk rfl (by kernel_rfl) rfl rfl rfl rfl (fun _ => e_idxA1 (j - 2) hk rfl rfl Tryd.underlying100 sz29 rfl (by omega) _) fun a hk => ?_
      refine d3 8 hk rfl (by kernel_rfl) rfl rfl rfl rfl hS (fun w hS => r_load (v := W ((sched bs j).getD (j - 2) 0)) hk rfl Tryd.underlying29 rfl hS (words_at _ _ _ (j - 2) (by omega) (by rw [length_sched]; omega))) fun a hk => ?_
      refine da4 9 hk rfl (by kernel_rfl) rfl rfl hS (a_call hk rfl rfl (c_fn hk rfl ok69) (c69 _ 19 (by decide) (by decide) _) ?_)
      rintro e w ⟨rfl, hE⟩
      refine ⟨_, rfl, fun a hk => ⟨ext_at hE hS, ?_⟩⟩
      have hS := ext_at hE hS
      have h2 := ext_at hE h2
      have hB := ext_trans hB hE
      clear hE
      refine d0 10 hk rfl (by kernel_rfl) rfl rfl rfl rfl (fun _ => e_xor hk rfl rfl (w_xor _ _) _) fun a hk => ?_
      refine d0 11 hk rfl (by kernel_rfl) rfl rfl rfl rfl (fun _ => e_move hk rfl _) fun a hk => ?_
      refine d0 12 hk rfl (by kernel_rfl) rfl rfl rfl rfl (fun _ => e_sub (q := ((j - 2 : Nat) : Int)) hk rfl rfl (by rw [i64 (by omega) (by omega)]; omega) _) fun a hk => ?_
      refine d0 13 hk rfl (by kernel_rfl) rfl rfl rfl rfl (fun _ => e_idxA1 (j - 2) hk rfl rfl Tryd.underlying100 sz29 rfl (by omega) _) fun a hk => ?_
      refine d3 14 hk rfl (by kernel_rfl) rfl rfl rfl rfl hS (fun w hS => r_load (v := W ((sched bs j).getD (j - 2) 0)) hk rfl Tryd.underlying29 rfl hS (words_at _ _ _ (j - 2) (by omega) (by rw [length_sched]; omega))) fun a hk => ?_
      refine d0 15 hk rfl (by kernel_rfl) rfl rfl rfl rfl (fun _ => e_shr hk rfl rfl (by decide) (w_shr _ 10 (by decide)) _) fun a hk => ?_
      refine d0 16 hk rfl (by kernel_rfl) rfl rfl rfl rfl (fun _ => e_xor hk rfl rfl (w_xor _ _) _) fun a hk => ?_
      refine d0 17 hk rfl (by kernel_rfl) rfl rfl rfl rfl (fun _ => e_assign hk rfl _) fun a hk => ?_
      have h3 := hS
      clear hS
      refine okFin (by kernel_rfl) (hK14 _ _ ?_)
      refine wp_region_ok (fun _ => True) [0, 0, 0, 0, 1, 0, 0, 0, 0, 0, 1, 0, 0, 0, 0, 2] mixed ?_
      have hB := hB.drew
      have h2 := ext_at (ext_drew w) h2
      have h3 := ext_at (ext_drew w) h3
      refine d0 0 hk rfl (by kernel_rfl) rfl rfl rfl rfl (fun _ => e_move hk rfl _) fun a hk => ?_
      refine d0 1 hk rfl (by kernel_rfl) rfl rfl rfl rfl (fun _ => e_move hk rfl _) fun a hk => ?_
      refine d0 2 hk rfl (by kernel_rfl) rfl rfl rfl rfl (fun _ => e_sub (q := ((j - 16 : Nat) : Int)) hk rfl rfl (by rw [i64 (by omega) (by omega)]; omega) _) fun a hk => ?_
      refine d0 3 hk rfl (by kernel_rfl) rfl rfl rfl rfl (fun _ => e_idxA1 (j - 16) hk rfl rfl Tryd.underlying100 sz29 rfl (by omega) _) fun a hk => ?_
      refine d1 4 hk rfl (by kernel_rfl) rfl rfl rfl rfl (r_load (v := W ((sched bs j).getD (j - 16) 0)) hk rfl Tryd.underlying29 rfl h3 (words_at _ _ _ (j - 16) (by omega) (by rw [length_sched]; omega))) fun a hk => ?_
      refine d0 5 hk rfl (by kernel_rfl) rfl rfl rfl rfl (fun _ => e_move hk rfl _) fun a hk => ?_
      refine d0 6 hk rfl (by kernel_rfl) rfl rfl rfl rfl (fun _ => e_add hk rfl rfl (w_add _ _) _) fun a hk => ?_
      refine d0 7 hk rfl (by kernel_rfl) rfl rfl rfl rfl (fun _ => e_move hk rfl _) fun a hk => ?_
      refine d0 8 hk rfl (by kernel_rfl) rfl rfl rfl rfl (fun _ => e_sub (q := ((j - 7 : Nat) : Int)) hk rfl rfl (by rw [i64 (by omega) (by omega)]; omega) _) fun a hk => ?_
      refine d0 9 hk rfl (by kernel_rfl) rfl rfl rfl rfl (fun _ => e_idxA1 (j - 7) hk rfl rfl Tryd.underlying100 sz29 rfl (by omega) _) fun a hk => ?_
      refine d1 10 hk rfl (by kernel_rfl) rfl rfl rfl rfl (r_load (v := W ((sched bs j).getD (j - 7) 0)) hk rfl Tryd.underlying29 rfl h3 (words_at _ _ _ (j - 7) (by omega) (by rw [length_sched]; omega))) fun a hk => ?_
      refine d0 11 hk rfl (by kernel_rfl) rfl rfl rfl rfl (fun _ => e_add hk rfl rfl (w_add _ _) _) fun a hk => ?_
      refine d0 12 hk rfl (by kernel_rfl) rfl rfl rfl rfl (fun _ => e_move hk rfl _) fun a hk => ?_
      refine d0 13 hk rfl (by kernel_rfl) rfl rfl rfl rfl (fun _ => e_add hk rfl rfl (w_add _ _) _) fun a hk => ?_
      refine d0 14 hk rfl (by kernel_rfl) rfl rfl rfl rfl (fun _ => e_idxA1 j hk rfl rfl Tryd.underlying100 sz29 rfl (by omega) _) fun a hk => ?_
      refine da 15 hk rfl (by kernel_rfl) rfl rfl (a_store hk rfl rfl rfl sz29 h3 (by simp [length_sched]; omega) fun a w hk W5 => ?_)
      have hB := W5.below hB hg3
      have h2 := W5.keep hne h2
      have h3 : w.heap[b3]? = some (.cells ((sched bs (j + 1) ++ List.replicate (64 - (j + 1)) 0).map W).toArray 100 (0, 0)) := by
        have h := W5.at_
        rw [show 64 - j = (63 - j) + 1 by omega, List.replicate_succ, show sched bs j ++ 0 :: List.replicate (63 - j) 0 = sched bs j ++ [0] ++ List.replicate (63 - j) 0 by simp,
          words_set _ _ _ _ _ (by rw [length_sched]; omega)] at h
        rw [h, show 64 - (j + 1) = 63 - j by omega, sched, if_neg (by omega)]
        rfl
      clear W5
      refine okFin (by kernel_rfl) (hK12 _ _ ?_)
      refine wp_region_lit ?_
      refine ls hk rfl rfl rfl (e_move hk rfl _) fun a hk => ?_
      refine ls hk rfl rfl rfl (e_add hk rfl rfl (i64 (by omega) (by omega)) _) fun a hk => ?_
      refine ls hk rfl rfl rfl (e_assign hk rfl _) fun a hk => ?_
      refine lnil (show ∃ m : Nat, m < _ ∧ _ from ⟨64 - (j + 1), by omega, j + 1, rfl, by omega, by omega, hk.sub _ ⟨rfl, rfl, rfl, rfl, trivial⟩, hB, ⟨_, h2, hz⟩, h3⟩)
    · have hj1 : j = 64 := by have := of_decide_eq_false hb; omega
      subst hj1
      refine wp_exit (hK8 _ _ ?_)
      refine wp_seq_k fun K15 hK15 => ?_
      refine wp_region_lit ?_
      refine ls hk rfl rfl rfl (r_loadB hk rfl h3 Tryd.underlying100 rfl (by rw [sz100]; simp [length_sched])) fun a hk => ?_
      refine la hk rfl (a_storeB hk rfl rfl (words_one _) (by rw [sz100]; simp [length_sched]) h2 (by rw [hz]; simp [length_sched]) fun a w hk W12 => ?_)
      refine lnil (hK15 _ _ ?_)
      refine wp_ret ?_
      refine retA hk rfl rfl W12.at_ Tryd.underlying100 rfl (by rw [sz100]; simp [length_sched]) ⟨by simp, W12.below hB hg2⟩

end Go.Proofs.YtidfbboalbchiaaDoor

namespace Go.Proofs.YtidfbboalbchiaaDoor
open Go Go.RowKit

theorem a_lit0 {P : Program} {ty : TypeId} {pos : String} {af : Array Edge} {g : Option (Nat × Bool)} {N d : Nat} {L : Fm} {a : Act} {w : World} {t e : TypeId} {zv : Value} {sz by_ : Nat} {K : Act → World → Prop} (hk : Kn a N L) (hN : Nat.blt d N = true) (ht : P.underlying t = some (.slice e)) (hz : El P e zv sz by_)
    (hK : ∀ a' w' b, Kn a' N ((d, .slice (some ⟨b, 0, none⟩) 0 0) :: L) → Grew w w' b (.cells #[] e) → K a' w') : acts P ⟨some d, .buildSlice t 0 #[], ty, pos, af, g⟩ K a w := by
  refine act_v (v := .slice (some ⟨w.heap.size, 0, none⟩) 0 0) (w' := w.alloc (.cells #[] e)) hk rfl hN ?_ fun a' hk' => hK a' _ _ hk' (grew_alloc _ _)
  unfold El at hz
  cases hq : P.info? e with
  | none => simp [hq] at hz
  | some inf =>
    have hr : Array.range 0 = #[] := by decide
    simp [execOp, Instr.buildSlice, run_underlying ht, sizeOf, typeInfo, hq, newRow, Instr.fill, hr]
/-- A message, its first padding byte, k zero bytes. -/
def pad1 (m : List UInt8) (k : Nat) : List UInt8 := m ++ [128] ++ List.replicate k 0
theorem pad1_succ (m : List UInt8) (k : Nat) : pad1 m (k + 1) = pad1 m k ++ [0] := by
  unfold pad1
  rw [List.replicate_succ']; simp
theorem length_pad1 (m : List UInt8) (k : Nat) : (pad1 m k).length = m.length + 1 + k := by simp [pad1]; omega
theorem pad_all (m : List UInt8) : pad1 m (zeros m.length) ++ len8 (8 * m.length) = m ++ padding m.length := by simp [pad1, padding]

set_option maxRecDepth 4000 in
set_option maxHeartbeats 1000000 in
theorem c67 (m : List UInt8) (ad0 : Option Addr) (c0 : Nat) (w0 : World) (hR : Rd w0 ad0 m.length c0 1 (m.map B)) (hl : m.length ≤ 1000000000) :
    Calls Tryd.prog 67 #[.slice ad0 m.length c0] w0 fun e w' => ∃ ad c, e = .returned (.slice ad (m ++ padding m.length).length c) ∧ w'.ownsRow w0.heap.size 5 1 (.slice ad (m ++ padding m.length).length c) (m ++ padding m.length).length ((m ++ padding m.length).map B) ∧ Ext w0 w' := by
  refine start 37 Tryd.func67 rfl rfl rfl fun a hk => ?_
  refine wp_seq_k fun K1 hK1 => ?_
  refine wp_region_lit ?_
  refine ls hk rfl rfl rfl (e_assign hk rfl _) fun a hk => ?_
  refine lnil (hK1 _ _ ?_)
  refine wp_seq_k fun K2 hK2 => ?_
  have hB : Ext w0 w0 := Below.refl _ _
  have hCC : w0.heap.size ≤ w0.heap.size := Nat.le_refl _
  refine wp_region_lit ?_
  refine la hk rfl (a_lit0 hk rfl Tryd.underlying22 el5 fun a w bl hk GL => ?_)
  have hB := ext_trans hB GL.ext
  have hown : w.ownsRow w0.heap.size 5 1 (.slice (some ⟨bl, 0, none⟩) 0 0) 0 [] := lit_own (n := 0) (sz := 1) GL rfl (by decide)
  have hCC := hB.size
  clear GL
  refine ls hk rfl rfl rfl (e_move hk rfl _) fun a hk => ?_
  refine la hk rfl (a_app (news := m.map B) hk rfl rfl hown rfl (hR.ext hB) (bytes_one m) Tryd.underlying22 el5 rfl (by decide) (by omega) (by omega) hCC fun a w v hk hown' hKp => ?_)
  have hB := kept_below hKp hB hown (Nat.le_refl _) hCC
  have hCC := Nat.le_trans hCC hKp.size
  clear hown hKp
  obtain ⟨ad, c, rfl, _, _⟩ := Rd.of_own hown'
  have hown : w.ownsRow w0.heap.size 5 1 (.slice ad (0 + m.length) c) (0 + m.length) (m.map B) := hown'
  clear hown'
  refine ls hk rfl rfl rfl (e_assign hk rfl _) fun a hk => ?_
  refine lnil (hK2 _ _ ?_)
  refine wp_seq_k fun K3 hK3 => ?_
  refine wp_region_lit ?_
  refine ls hk rfl rfl rfl (e_move hk rfl _) fun a hk => ?_
  refine la hk rfl (a_lit (cells := #[B (128)]) (zv := .int .u8 0) (sz := 1) (by_ := 1) hk rfl rfl Tryd.underlying22 el5 (by decide) (by decide) (lit1 _ _ rfl) rfl fun a w bl hk GL => ?_)
  have hB := ext_trans hB GL.ext
  have hown := own_ext hown GL.ext
  have hRd := lit_byte _ GL
  have hCC := Nat.le_trans hCC GL.ext.size
  clear GL
  refine la hk rfl (a_app hk rfl rfl hown rfl hRd (bytes_one _) Tryd.underlying22 el5 rfl (by decide) (by omega) (by omega) hCC fun a w v hk hown' hKp => ?_)
  have hB := kept_below hKp hB hown (Nat.le_refl _) hCC
  have hCC := Nat.le_trans hCC hKp.size
  clear hown hRd hKp
  obtain ⟨ad, c, rfl, _, _⟩ := Rd.of_own hown'
  have hown : w.ownsRow w0.heap.size 5 1 (.slice ad (0 + m.length + 1) c) (0 + m.length + 1) ((pad1 m 0).map B) := by
    rw [show pad1 m 0 = m ++ [128] by simp [pad1], List.map_append]; exact hown'
  clear hown'
  refine ls hk rfl rfl rfl (e_assign hk rfl _) fun a hk => ?_
  rw [show 0 + m.length + 1 = m.length + 1 + 0 by omega] at hk hown
  refine lnil (hK3 _ _ ?_)
  refine wp_seq_k fun K4 hK4 => ?_
  refine wp_block ?_
  refine loopN (fun n a w => ∃ k : Nat, n = zeros m.length - k ∧ k ≤ zeros m.length ∧ ∃ (ad : Option Addr) (c : Nat), Kn a 37 [(0, .slice ad0 m.length c0), (3, .slice ad (m.length + 1 + k) c)] ∧ Below w0.heap.size w0 w ∧ w0.heap.size ≤ w.heap.size ∧ w.ownsRow w0.heap.size 5 1 (.slice ad (m.length + 1 + k) c) (m.length + 1 + k) ((pad1 m k).map B)) (zeros m.length) ?_ fun n a w hI => ?_
  · exact ⟨0, rfl, Nat.zero_le _, _, _, hk.sub _ ⟨rfl, rfl, trivial⟩, hB, hCC, hown⟩
  clear hB hCC hown
  obtain ⟨k, rfl, hkz, ad, c, hk, hB, hCC, hown⟩ := hI
  have hz64 : zeros m.length < 64 := Nat.mod_lt _ (by decide)
  refine wp_seq_k fun K5 hK5 => ?_
  refine wp_seq_k fun K6 hK6 => ?_
  refine wp_region_lit ?_
  refine ls hk rfl rfl rfl (e_move hk rfl _) fun a hk => ?_
  refine ls hk rfl rfl rfl (e_lenS hk rfl Tryd.underlying22 _) fun a hk => ?_
  refine ls hk rfl rfl rfl (e_rem (q := (((m.length + 1 + k) % 64 : Nat) : Int)) hk rfl rfl (by decide) (i_rem (m.length + 1 + k) 64) _) fun a hk => ?_
  refine ls hk rfl rfl rfl (e_neq hk rfl rfl rfl _) fun a hk => ?_
  refine lnil (hK6 _ _ ?_)
  refine cdB hk rfl (fun hb => ?_) (fun hb => ?_)
  · have hne : (m.length + 1 + k) % 64 ≠ 56 := by
      intro h
      rw [h] at hb
      simp at hb
    have hlt : k < zeros m.length := by unfold zeros at hkz ⊢; omega
    refine wp_skip (hK5 _ _ ?_)
    refine wp_block ?_
    refine wp_region_lit ?_
    refine ls hk rfl rfl rfl (e_move hk rfl _) fun a hk => ?_
    refine la hk rfl (a_lit (cells := #[B (0)]) (zv := .int .u8 0) (sz := 1) (by_ := 1) hk rfl rfl Tryd.underlying22 el5 (by decide) (by decide) (lit1 _ _ rfl) rfl fun a w bl hk GL => ?_)
    have hB := ext_trans hB GL.ext
    have hown := own_ext hown GL.ext
    have hRd := lit_byte _ GL
    have hCC := Nat.le_trans hCC GL.ext.size
    clear GL
    refine la hk rfl (a_app hk rfl rfl hown rfl hRd (bytes_one _) Tryd.underlying22 el5 rfl (by decide) (by omega) (by omega) hCC fun a w v hk hown' hKp => ?_)
    have hB := kept_below hKp hB hown (Nat.le_refl _) hCC
    have hCC := Nat.le_trans hCC hKp.size
    clear hown hRd hKp
    obtain ⟨ad, c, rfl, _, _⟩ := Rd.of_own hown'
    have hown : w.ownsRow w0.heap.size 5 1 (.slice ad (m.length + 1 + (k + 1)) c) (m.length + 1 + (k + 1)) ((pad1 m (k + 1)).map B) := by
      rw [pad1_succ, List.map_append]; exact hown'
    clear hown'
    refine ls hk rfl rfl rfl (e_assign hk rfl _) fun a hk => ?_
    refine lnil (show ∃ m : Nat, m < _ ∧ _ from ⟨zeros m.length - (k + 1), by omega, k + 1, rfl, by omega, _, _, hk.sub _ ⟨rfl, rfl, trivial⟩, hB, hCC, hown⟩)
  · have he : (m.length + 1 + k) % 64 = 56 := by
      have h : (((m.length + 1 + k) % 64 : Nat) : Int) = 56 := by simpa using hb
      omega
    have hz : k = zeros m.length := by unfold zeros at hkz ⊢; omega
    subst hz
    refine wp_exit (hK4 _ _ ?_)
    refine wp_seq_k fun K7 hK7 => ?_
    refine wp_region_lit ?_
    refine ls hk rfl rfl rfl (e_move hk rfl _) fun a hk => ?_
    refine ls hk rfl rfl rfl (e_lenS hk rfl Tryd.underlying22 _) fun a hk => ?_
    refine ls hk rfl rfl rfl (e_conv hk rfl Tryd.underlying3 Tryd.underlying32 (u64 (by omega) (by omega)) _) fun a hk => ?_
    refine ls hk rfl rfl rfl (e_mul (q := ((8 * m.length : Nat) : Int)) hk rfl rfl (by rw [u64 (by omega) (by omega)]; omega) _) fun a hk => ?_
    refine ls hk rfl rfl rfl (e_assign hk rfl _) fun a hk => ?_
    refine lnil (hK7 _ _ ?_)
    refine wp_seq_k fun K8 hK8 => ?_
    refine wp_seq_k fun K9 hK9 => ?_
    refine wp_region_lit ?_
    refine ls hk rfl rfl rfl (e_assign hk rfl _) fun a hk => ?_
    refine lnil (hK9 _ _ ?_)
    refine wp_block ?_
    refine loopN (fun n a w => ∃ i : Nat, n = 8 - i ∧ i ≤ 8 ∧ ∃ (ad : Option Addr) (c : Nat), Kn a 37 [(0, .slice ad0 m.length c0), (3, .slice ad (m.length + 1 + zeros m.length + i) c), (4, .int .u64 ((8 * m.length : Nat) : Int)), (5, I i)] ∧ Below w0.heap.size w0 w ∧ w0.heap.size ≤ w.heap.size ∧ w.ownsRow w0.heap.size 5 1 (.slice ad (m.length + 1 + zeros m.length + i) c) (m.length + 1 + zeros m.length + i) ((pad1 m (zeros m.length) ++ (len8 (8 * m.length)).take i).map B)) (8) ?_ fun n a w hI => ?_
    · exact ⟨0, rfl, by omega, ad, c, hk.sub _ ⟨rfl, rfl, rfl, rfl, trivial⟩, hB, hCC, by rw [List.take_zero, List.append_nil]; exact hown⟩
    clear hB hCC hown
    obtain ⟨i, rfl, hi, ad, c, hk, hB, hCC, hown⟩ := hI
    refine wp_seq_k fun K10 hK10 => ?_
    refine wp_seq_k fun K11 hK11 => ?_
    refine wp_region_lit ?_
    refine ls hk rfl rfl rfl (e_move hk rfl _) fun a hk => ?_
    refine ls hk rfl rfl rfl (e_lss hk rfl rfl rfl _) fun a hk => ?_
    refine lnil (hK11 _ _ ?_)
    refine cdB hk rfl (fun hb => ?_) (fun hb => ?_)
    · have hi8 : i < 8 := by have := of_decide_eq_true hb; omega
      refine wp_skip (hK10 _ _ ?_)
      refine wp_seq_k fun K12 hK12 => ?_
      refine wp_block ?_
      refine wp_region_lit ?_
      refine ls hk rfl rfl rfl (e_move hk rfl _) fun a hk => ?_
      refine ls hk rfl rfl rfl (e_move hk rfl _) fun a hk => ?_
      refine ls hk rfl rfl rfl (e_move hk rfl _) fun a hk => ?_
      refine ls hk rfl rfl rfl (e_mul (q := ((8 * i : Nat) : Int)) hk rfl rfl (by rw [i64 (by omega) (by omega)]; omega) _) fun a hk => ?_
      refine ls hk rfl rfl rfl (e_sub (q := ((56 - 8 * i : Nat) : Int)) hk rfl rfl (by rw [i64 (by omega) (by omega)]; omega) _) fun a hk => ?_
      refine ls hk rfl rfl rfl (e_shr hk rfl rfl (by omega) (u_shr _ (56 - 8 * i) (by omega)) _) fun a hk => ?_
      refine ls hk rfl rfl rfl (e_conv hk rfl Tryd.underlying32 Tryd.underlying5 (u_b _) _) fun a hk => ?_
      refine la hk rfl (a_lit (cells := #[B (UInt8.ofNat (8 * m.length / 2 ^ (56 - 8 * i) % 256))]) (zv := .int .u8 0) (sz := 1) (by_ := 1) hk rfl rfl Tryd.underlying22 el5 (by decide) (by decide) (lit1 _ _ rfl) rfl fun a w bl hk GL => ?_)
      have hB := ext_trans hB GL.ext
      have hown := own_ext hown GL.ext
      have hRd := lit_byte _ GL
      have hCC := Nat.le_trans hCC GL.ext.size
      clear GL
      refine la hk rfl (a_app hk rfl rfl hown rfl hRd (bytes_one _) Tryd.underlying22 el5 rfl (by decide) (by omega) (by omega) hCC fun a w v hk hown' hKp => ?_)
      have hB := kept_below hKp hB hown (Nat.le_refl _) hCC
      have hCC := Nat.le_trans hCC hKp.size
      clear hown hRd hKp
      obtain ⟨ad, c, rfl, _, _⟩ := Rd.of_own hown'
      have hown : w.ownsRow w0.heap.size 5 1 (.slice ad (m.length + 1 + zeros m.length + (i + 1)) c) (m.length + 1 + zeros m.length + (i + 1)) ((pad1 m (zeros m.length) ++ (len8 (8 * m.length)).take (i + 1)).map B) := by
        rw [len8_take _ _ hi8, ← List.append_assoc, List.map_append]; exact hown'
      clear hown'
      refine ls hk rfl rfl rfl (e_assign hk rfl _) fun a hk => ?_
      refine lnil (hK12 _ _ ?_)
      refine wp_region_lit ?_
      refine ls hk rfl rfl rfl (e_move hk rfl _) fun a hk => ?_
      refine ls hk rfl rfl rfl (e_add hk rfl rfl (i64 (by omega) (by omega)) _) fun a hk => ?_
      refine ls hk rfl rfl rfl (e_assign hk rfl _) fun a hk => ?_
      refine lnil (show ∃ m : Nat, m < _ ∧ _ from ⟨8 - (i + 1), by omega, i + 1, rfl, by omega, _, _, hk.sub _ ⟨rfl, rfl, rfl, rfl, trivial⟩, hB, hCC, hown⟩)
    · have hi8 : i = 8 := by have := of_decide_eq_false hb; omega
      subst hi8
      refine wp_exit (hK8 _ _ ?_)
      refine wp_seq_k fun K13 hK13 => ?_
      refine wp_region_lit ?_
      refine ls hk rfl rfl rfl (e_move hk rfl _) fun a hk => ?_
      refine ls hk rfl rfl rfl (e_assign hk rfl _) fun a hk => ?_
      refine lnil (hK13 _ _ ?_)
      refine wp_ret ?_
      have hp : pad1 m (zeros m.length) ++ (len8 (8 * m.length)).take 8 = m ++ padding m.length := by rw [List.take_of_length_le (by simp [len8]), pad_all]
      have hlp : (m ++ padding m.length).length = m.length + 1 + zeros m.length + 8 := by rw [List.length_append, length_padding]; omega
      rw [hp] at hown
      rw [← hlp] at hk hown
      exact ret1 hk rfl rfl ⟨ad, c, rfl, hown, hB⟩

end Go.Proofs.YtidfbboalbchiaaDoor
