/- The walks of hash.Mac, hash.Equal and Bytes32. -/
import Derived.Test.YtidfbboalbchiaaDoorA7
namespace Go.Proofs.YtidfbboalbchiaaDoor
open Go Go.RowKit

theorem own_nil {w : World} {base : Nat} {e : TypeId} {sz : Nat} : w.ownsRow base e sz (.slice none 0 0) 0 [] := ⟨by simp, .inl ⟨rfl, rfl⟩⟩
/-- Bytes, the first i of them turned by x. -/
def xo (p : List UInt8) (x : UInt8) (i : Nat) : List UInt8 := (p.take i).map (· ^^^ x) ++ p.drop i
theorem xo_get (p : List UInt8) (x : UInt8) (i : Nat) (h : i < p.length) : ((xo p x i).map B).toArray[0 + i]? = some (B p[i]) := by
  simp [xo, List.getElem?_append_right, List.length_take, Nat.min_eq_left (Nat.le_of_lt h), h]
theorem xo_set (p : List UInt8) (x : UInt8) (i : Nat) (h : i < p.length) : ((xo p x i).map B).toArray.setIfInBounds (0 + i) (B (p[i] ^^^ x)) = ((xo p x (i + 1)).map B).toArray := by
  have e : xo p x i = (p.take i).map (· ^^^ x) ++ [p[i]] ++ p.drop (i + 1) := by
    rw [xo, List.drop_eq_getElem_cons h]; simp
  rw [e, Nat.zero_add, bytes_set _ _ _ _ _ (by simp; omega)]
  rw [xo, List.take_add_one, List.getElem?_eq_getElem h]
  simp only [Option.toList_some, List.map_append, List.map_cons, List.map_nil]
theorem length_xo (p : List UInt8) (x : UInt8) (i : Nat) : (xo p x i).length = p.length := by simp [xo]; omega
/-- A key, filled up and turned. -/
def fill64 (key : List UInt8) : List UInt8 := key ++ List.replicate (64 - key.length) 0
def pad64 (key : List UInt8) (x : UInt8) : List UInt8 := (fill64 key).map (· ^^^ x)
theorem length_fill64 (key : List UInt8) (h : key.length ≤ 64) : (fill64 key).length = 64 := by simp [fill64]; omega
theorem copy_fill (key : List UInt8) (h : key.length ≤ 64) (cs : Array Value) (hc : cs = (List.replicate 64 (B 0)).toArray) : (cs.toList.take 0 ++ (key.take (min key.length 64)).map B ++ cs.toList.drop (0 + min key.length 64)).toArray = ((xo (fill64 key) 0 0).map B).toArray := by
  subst hc
  rw [Nat.min_eq_left h]
  simp only [xo, fill64, List.take_zero, List.map_nil, List.nil_append, List.drop_zero, List.map_append, List.map_replicate, Nat.zero_add, List.take_length, List.drop_replicate]

theorem xo_all (p : List UInt8) (x : UInt8) (n : Nat) (h : p.length = n) : xo p x n = p.map (· ^^^ x) := by
  subst h
  simp [xo]

set_option maxRecDepth 4000 in
set_option maxHeartbeats 1000000 in
theorem c71 (x : UInt8) (key : List UInt8) (bk : Nat) (w0 : World) (hkey : w0.cell? ⟨bk, 0, none⟩ = some (Str key)) (hkl : key.length ≤ 64) :
    Calls Tryd.prog 71 #[B x, .pointer (some ⟨bk, 0, none⟩)] w0 fun e w' => e = .returned (Str (pad64 key x)) ∧ Ext w0 w' := by
  refine start 21 Tryd.func71 rfl rfl rfl fun a hk => ?_
  refine wp_seq_k fun K1 hK1 => ?_
  refine wp_region_lit ?_
  refine ls hk rfl rfl rfl (e_assign hk rfl _) fun a hk => ?_
  refine lnil (hK1 _ _ ?_)
  refine wp_seq_k fun K2 hK2 => ?_
  refine wp_region_lit ?_
  refine la hk rfl (a_alloc hk rfl zr31 fun a w b4 hk G4 => ?_)
  refine lnil (hK2 _ _ ?_)
  refine wp_seq_k fun K3 hK3 => ?_
  refine wp_region_ok (fun _ => True) [0, 1, 2] mixed ?_
  have hB := G4.ext.drew
  have h4 : w.drew.heap[b4]? = _ := G4.at_
  have hkc : w.drew.cell? ⟨bk, 0, none⟩ = some (Str key) := ext_cell hB hkey
  have hg4 := G4.ge
  refine d0 0 hk rfl (by kernel_rfl) rfl rfl rfl rfl (fun _ => e_slA hk rfl Tryd.underlying31 sz5 _) fun a hk => ?_
  refine d1 1 hk rfl (by kernel_rfl) rfl rfl rfl rfl (r_load1 (v := Str key) hk rfl Tryd.underlying9 rfl hkc) fun a hk => ?_
  refine da 2 hk rfl (by kernel_rfl) rfl rfl (a_copyStr (cs := (List.replicate 64 (B 0)).toArray) hk rfl rfl rfl Tryd.underlying22 sz5 h4 (by simp) fun a w hk W2 => ?_)
  have hB := W2.below hB hg4
  have h4 := W2.at_
  rw [copy_fill key hkl _ rfl] at h4
  rw [show xo (fill64 key) 0 0 = xo (fill64 key) x 0 by simp [xo]] at h4
  clear W2
  refine okFin (by kernel_rfl) (hK3 _ _ ?_)
  refine wp_seq_k fun K4 hK4 => ?_
  refine wp_seq_k fun K5 hK5 => ?_
  refine wp_region_lit ?_
  refine ls hk rfl rfl rfl (e_move hk rfl _) fun a hk => ?_
  refine lnil (hK5 _ _ ?_)
  refine wp_block ?_
  refine loopN (fun n a w => ∃ i : Nat, n = 64 - i ∧ i ≤ 64 ∧ Kn a 21 [(0, B x), (4, .pointer (some ⟨b4, 0, none⟩)), (9, I i)] ∧ Below w0.heap.size w0 w ∧ w.heap[b4]? = some (.cells ((xo (fill64 key) x i).map B).toArray 31 (0, 0))) (64) ?_ fun n a w hI => ?_
  · exact ⟨0, rfl, by omega, hk.sub _ ⟨rfl, rfl, rfl, trivial⟩, hB, h4⟩
  clear hB h4 hkc
  obtain ⟨i, rfl, hi, hk, hB, h4⟩ := hI
  refine wp_seq_k fun K6 hK6 => ?_
  refine wp_region_lit ?_
  refine ls hk rfl rfl rfl (e_lss hk rfl rfl rfl _) fun a hk => ?_
  refine lnil (hK6 _ _ ?_)
  refine wp_seq_k fun K7 hK7 => ?_
  refine cdB hk rfl (fun hb => ?_) (fun hb => ?_)
  · have hil : i < 64 := by have := of_decide_eq_true hb; omega
    have hif : i < (fill64 key).length := by rw [length_fill64 key hkl]; exact hil
    refine wp_skip (hK7 _ _ ?_)
    refine wp_seq_k fun K8 hK8 => ?_
    refine wp_block ?_
    refine wp_seq_k fun K9 hK9 => ?_
    refine wp_region_lit ?_
    refine ls hk rfl rfl rfl (e_move hk rfl _) fun a hk => ?_
    refine ls hk rfl rfl rfl (e_assign hk rfl _) fun a hk => ?_
    refine lnil (hK9 _ _ ?_)
    refine wp_region_lit ?_
    refine ls hk rfl rfl rfl (e_move hk rfl _) fun a hk => ?_
    refine ls hk rfl rfl rfl (e_idxA1 i hk rfl rfl Tryd.underlying31 sz5 rfl hil _) fun a hk => ?_
    refine ls hk rfl rfl rfl (r_load (v := B (fill64 key)[i]) hk rfl Tryd.underlying5 rfl h4 (xo_get _ _ _ hif)) fun a hk => ?_
    refine ls hk rfl rfl rfl (e_move hk rfl _) fun a hk => ?_
    refine ls hk rfl rfl rfl (e_xor hk rfl rfl (b_xor _ _) _) fun a hk => ?_
    refine ls hk rfl rfl rfl (e_idxA1 i hk rfl rfl Tryd.underlying31 sz5 rfl hil _) fun a hk => ?_
    refine la hk rfl (a_store hk rfl rfl rfl sz5 h4 (by simp [length_xo]; omega) fun a w hk W6 => ?_)
    have hB := W6.below hB hg4
    have h4 := W6.at_
    rw [xo_set _ _ _ hif] at h4
    clear W6
    refine lnil (hK8 _ _ ?_)
    refine wp_region_lit ?_
    refine ls hk rfl rfl rfl (e_add hk rfl rfl (i64 (by omega) (by omega)) _) fun a hk => ?_
    refine ls hk rfl rfl rfl (e_move hk rfl _) fun a hk => ?_
    refine lnil (show ∃ m : Nat, m < _ ∧ _ from ⟨64 - (i + 1), by omega, i + 1, rfl, by omega, hk.sub _ ⟨rfl, rfl, rfl, trivial⟩, hB, h4⟩)
  · have hil : i = 64 := by have := of_decide_eq_false hb; omega
    subst hil
    refine wp_exit (hK4 _ _ ?_)
    refine wp_seq_k fun K10 hK10 => ?_
    refine wp_region_lit ?_
    refine ls hk rfl rfl rfl (e_slA hk rfl Tryd.underlying31 sz5 _) fun a hk => ?_
    refine ls hk rfl rfl rfl (e_str (bs := pad64 key x) hk rfl (Rd.of_block h4 (by simp [pad64, length_fill64 key hkl]) (Nat.le_refl _) (fun i _ => by rw [xo_all _ _ _ (length_fill64 key hkl)]; simp [pad64])) Tryd.underlying22 Tryd.underlying5 Tryd.underlying9) fun a hk => ?_
    refine ls hk rfl rfl rfl (e_assign hk rfl _) fun a hk => ?_
    refine lnil (hK10 _ _ ?_)
    refine wp_ret ?_
    exact ret1 hk rfl rfl ⟨rfl, hB⟩

theorem k1_le (key : List UInt8) : (if key.length > 64 then sha key else key).length ≤ 64 := by
  split
  · rw [length_sha]; decide
  · omega
theorem length_pad64 (key : List UInt8) (x : UInt8) (h : key.length ≤ 64) : (pad64 key x).length = 64 := by rw [pad64, List.length_map, length_fill64 key h]
theorem sha_row {w : World} {b : Nat} {t : TypeId} {fr : Nat × Nat} {m : List UInt8} (h : w.heap[b]? = some (.cells ((sha m).map B).toArray t fr)) : Rd w (some ⟨b, 0, none⟩) 32 32 1 ((sha m).map B) :=
  Rd.of_block h (by simp [length_sha]) (Nat.le_refl _) fun i _ => by simp
theorem kcell {w : World} {b : Nat} {t : TypeId} {v : Value} (h : w.heap[b]? = some (.cells #[v] t (0, 0))) : w.cell? ⟨b, 0, none⟩ = some v := by
  rw [cell_of_row w b 0 _ t (0, 0) h]; rfl

set_option maxRecDepth 4000 in
set_option maxHeartbeats 1000000 in
theorem c30 (key text : List UInt8) (w0 : World) (hG : GH w0) (hkl : key.length ≤ 1000000000) (htl : text.length ≤ 1000000000) :
    Calls Tryd.prog 30 #[Str key, Str text] w0 fun e w' => e = .returned (Str (mac key text)) ∧ Ext w0 w' := by
  refine start 35 Tryd.func30 rfl rfl rfl fun a hk => ?_
  refine wp_seq_k fun K1 hK1 => ?_
  refine wp_region_lit ?_
  refine la hk rfl (a_box hk rfl rfl fun a w b2 hk G2 => ?_)
  refine ls hk rfl rfl rfl (e_assign hk rfl _) fun a hk => ?_
  have hB : Below w0.heap.size w0 w := G2.ext
  have h2 : w.heap[b2]? = some (.cells #[Str key] 9 (0, 0)) := G2.at_
  have hg2 := G2.ge
  clear G2
  refine lnil (hK1 _ _ ?_)
  refine wp_seq_k fun K2 hK2 => ?_
  have hJ2 : ∀ (a : Act) (w : World), Kn a 35 [(1, Str text), (2, .pointer (some ⟨b2, 0, none⟩))] ∧ Below w0.heap.size w0 w ∧ w.heap[b2]? = some (.cells #[Str (if key.length > 64 then sha key else key)] 9 (0, 0)) → K2 a w := by
    intro a w hJ
    refine hK2 _ _ ?_
    refine wp_seq_k fun K3 hK3 => ?_
    generalize hke : (if key.length > 64 then sha key else key) = k₁ at hJ
    have hk1 : k₁.length ≤ 64 := by rw [← hke]; exact k1_le key
    obtain ⟨hk, hB, h2⟩ := hJ
    refine wp_region_lit ?_
    refine ls hk rfl rfl rfl (e_func (us := []) (vs := [.pointer (some ⟨b2, 0, none⟩)]) hk rfl rfl _) fun a hk => ?_
    refine ls hk rfl rfl rfl (e_assign hk rfl _) fun a hk => ?_
    refine lnil (hK3 _ _ ?_)
    refine wp_seq_k fun K4 hK4 => ?_
    refine wp_region_lit ?_
    refine la hk rfl (a_call hk rfl rfl (c_fn (vs := []) hk rfl ok26) (c26 _) ?_)
    rintro e w ⟨v, rfl, hIs, hE⟩
    refine ⟨_, rfl, fun a hk => ?_⟩
    have h2 := ext_at hE h2
    have hB := ext_trans hB hE
    refine ls hk rfl rfl rfl (e_move hk rfl _) fun a hk => ?_
    refine la hk rfl (a_call hk rfl rfl (c_val (first := []) (captured := [.pointer (some ⟨b2, 0, none⟩)]) hk rfl rfl ok71) (c71 54 k₁ b2 _ (kcell h2) hk1) ?_)
    rintro e w ⟨rfl, hE⟩
    refine ⟨_, rfl, fun a hk => ?_⟩
    have h2 := ext_at hE h2
    have hB := ext_trans hB hE
    refine la hk rfl (a_call hk rfl rfl (c_fn hk rfl ok27) (c27 [] (pad64 k₁ 54) _ _ hIs (hG.ext hB) (by simp [length_pad64 _ _ hk1])) ?_)
    rintro e w ⟨v, rfl, hIs, hE⟩
    refine ⟨_, rfl, fun a hk => ?_⟩
    have h2 := ext_at hE h2
    have hB := ext_trans hB hE
    refine ls hk rfl rfl rfl (e_move hk rfl _) fun a hk => ?_
    refine la hk rfl (a_call hk rfl rfl (c_fn hk rfl ok27) (c27 _ text _ _ hIs (hG.ext hB) (by simp [length_pad64 _ _ hk1]; omega)) ?_)
    rintro e w ⟨v, rfl, hIs, hE⟩
    refine ⟨_, rfl, fun a hk => ?_⟩
    have h2 := ext_at hE h2
    have hB := ext_trans hB hE
    refine la hk rfl (a_call hk rfl rfl (c_fn hk rfl ok29) (c29 _ _ _ hIs (hG.ext hB) (by simp [length_pad64 _ _ hk1]; omega)) ?_)
    rintro e w ⟨rfl, hE⟩
    refine ⟨_, rfl, fun a hk => ?_⟩
    have h2 := ext_at hE h2
    have hB := ext_trans hB hE
    refine la hk rfl (a_alloc hk rfl zr24 fun a w b7 hk G7 => ?_)
    refine la hk rfl (a_storeB hk rfl rfl (bytes_oneA _) (by rw [sz24]; simp [length_sha]) G7.at_ (by simp [length_sha, Value.cells]) fun a w hk W5 => ?_)
    have h2 := W5.keep (G7.ne h2) (ext_at G7.ext h2)
    have hB := W5.below (ext_trans hB G7.ext) (Nat.le_trans hB.size G7.ge)
    have h7 := W5.at_
    rw [List.nil_append] at h7
    refine lnil (hK4 _ _ ?_)
    refine wp_seq_k fun K5 hK5 => ?_
    refine wp_region_ok (fun _ => True) [] mixed ?_
    have hB := hB.drew
    have h2 : w.drew.heap[b2]? = _ := h2
    have h7 : w.drew.heap[b7]? = _ := h7
    refine okFront (fun k => Nat.blt k 9) (fun d a w => ∃ v0 v1 v2 v3 v4 v5 v6 v7 v8 : Value, Kn a 35 [(25, v0), (26, v1), (27, v2), (28, v3), (29, v4), (30, v5), (31, v6), (32, v7), (8, v8), (6, .func (.func 71) #[] #[.pointer (some ⟨b2, 0, none⟩)]), (2, .pointer (some ⟨b2, 0, none⟩)), (7, .pointer (some ⟨b7, 0, none⟩))] ∧ (Below w0.heap.size w0 w) ∧ (w.heap[b2]? = some (.cells #[Str k₁] 9 (0, 0))) ∧ (w.heap[b7]? = some (.cells ((sha (pad64 k₁ 54 ++ text)).map B).toArray 24 (0, 0))) ∧ (d 0 = true → IsS [] v0) ∧ (d 1 = true → v1 = .func (.func 71) #[] #[.pointer (some ⟨b2, 0, none⟩)]) ∧ (d 2 = true → v2 = Str (pad64 k₁ 92)) ∧ (d 3 = true → IsS (pad64 k₁ 92) v3) ∧ (d 4 = true → v4 = Value.slice (some ⟨b7, 0, none⟩) 32 32) ∧ (d 5 = true → v5 = Str (sha (pad64 k₁ 54 ++ text))) ∧ (d 6 = true → IsS (pad64 k₁ 92 ++ sha (pad64 k₁ 54 ++ text)) v6) ∧ (d 7 = true → v7 = .agg ((sha (pad64 k₁ 92 ++ sha (pad64 k₁ 54 ++ text))).map B).toArray) ∧ (d 8 = true → ∃ b, v8 = .pointer (some ⟨b, 0, none⟩) ∧ w0.heap.size ≤ b ∧ ∃ cs : Array Value, cs.size = 32 ∧ w.heap[b]? = some (.cells cs 24 (0, 0)))) 1 (by kernel_rfl) (fun k hk => Nat.lt_of_lt_of_le (blt_lt hk) (by decide)) ⟨_, _, _, _, _, _, _, _, _, (((((((((hk.own 8).own 32).own 31).own 30).own 29).own 28).own 27).own 26).own 25).sub _ ⟨rfl, rfl, rfl, rfl, rfl, rfl, rfl, rfl, rfl, rfl, rfl, rfl, trivial⟩, hB, h2, h7, fun h => noF h, fun h => noF h, fun h => noF h, fun h => noF h, fun h => noF h, fun h => noF h, fun h => noF h, fun h => noF h, fun h => noF h⟩ (fun a w hJ => ?_) ?_
    · obtain ⟨v0, v1, v2, v3, v4, v5, v6, v7, v8, hk, hB, h2, h7, f0, f1, f2, f3, f4, f5, f6, f7, f8⟩ := hJ
      have p0 := f0 rfl
      have p1 := f1 rfl
      have p2 := f2 rfl
      have p3 := f3 rfl
      have p4 := f4 rfl
      have p5 := f5 rfl
      have p6 := f6 rfl
      have p7 := f7 rfl
      have p8 := f8 rfl
      subst p7
      obtain ⟨b8, rfl, hg8, z8, hz8, h8⟩ := p8
      clear p0 p1 p2 p3 p4 p5 p6
      refine da 9 hk rfl (by kernel_rfl) rfl rfl (a_storeB hk rfl rfl (bytes_oneA _) (by rw [sz24]; simp [length_sha]) h8 (by simp [length_sha, hz8]) fun a w hk W9 => ?_)
      have hB := W9.below hB hg8
      have h8 := W9.at_
      refine okFin (by kernel_rfl) (hK5 _ _ ?_)
      refine wp_seq_k fun K6 hK6 => ?_
      refine wp_region_lit ?_
      refine ls hk rfl rfl rfl (e_slA hk rfl Tryd.underlying24 sz5 _) fun a hk => ?_
      refine ls hk rfl rfl rfl (e_str (bs := sha (pad64 k₁ 92 ++ sha (pad64 k₁ 54 ++ text))) hk rfl (sha_row h8) Tryd.underlying22 Tryd.underlying5 Tryd.underlying9) fun a hk => ?_
      refine ls hk rfl rfl rfl (e_assign hk rfl _) fun a hk => ?_
      refine lnil (hK6 _ _ ?_)
      refine wp_ret ?_
      exact ret1 hk rfl rfl ⟨by rw [← hke]; rfl, hB⟩
    refine ⟨?_, ?_, ?_, ?_, ?_, ?_, ?_, ?_, ?_, ?_, trivial⟩
    · intro _ d a w hr hJ
      obtain ⟨v0, v1, v2, v3, v4, v5, v6, v7, v8, hk, hB, h2, h7, f0, f1, f2, f3, f4, f5, f6, f7, f8⟩ := hJ
      refine wa hk rfl rfl ?_
      refine a_call hk rfl rfl (c_fn (vs := []) hk rfl ok26) (c26 _) ?_
      rintro e w' ⟨v, rfl, new, hE⟩
      refine ⟨_, rfl, fun a hk => ?_⟩
      exact ⟨_, _, _, _, _, _, _, _, _, hk.sub _ ⟨rfl, rfl, rfl, rfl, rfl, rfl, rfl, rfl, rfl, rfl, rfl, rfl, trivial⟩, ext_trans hB hE, ext_at hE h2, ext_at hE h7, fun _ => new, fun h => f1 h, fun h => f2 h, fun h => f3 h, fun h => f4 h, fun h => f5 h, fun h => f6 h, fun h => f7 h, fun h => by have f := f8 h; exact by obtain ⟨b, e, g, cs, hz, h⟩ := f; exact ⟨b, e, g, cs, hz, ext_at hE h⟩⟩
    · intro _ d a w hr hJ
      obtain ⟨v0, v1, v2, v3, v4, v5, v6, v7, v8, hk, hB, h2, h7, f0, f1, f2, f3, f4, f5, f6, f7, f8⟩ := hJ
      refine wa hk rfl rfl ?_
      refine ev_act hk rfl rfl (e_move hk rfl _) fun a hk => ?_
      have new : (.func (.func 71) #[] #[.pointer (some ⟨b2, 0, none⟩)] : Value) = .func (.func 71) #[] #[.pointer (some ⟨b2, 0, none⟩)] := rfl
      exact ⟨_, _, _, _, _, _, _, _, _, hk.sub _ ⟨rfl, rfl, rfl, rfl, rfl, rfl, rfl, rfl, rfl, rfl, rfl, rfl, trivial⟩, hB, h2, h7, fun h => f0 h, fun _ => new, fun h => f2 h, fun h => f3 h, fun h => f4 h, fun h => f5 h, fun h => f6 h, fun h => f7 h, fun h => f8 h⟩
    · intro _ d a w hr hJ
      obtain ⟨v0, v1, v2, v3, v4, v5, v6, v7, v8, hk, hB, h2, h7, f0, f1, f2, f3, f4, f5, f6, f7, f8⟩ := hJ
      obtain rfl := f1 (rdy_pre hr 1 (by kernel_rfl))
      refine wa hk rfl rfl ?_
      refine a_call hk rfl rfl (c_val (first := []) (captured := [.pointer (some ⟨b2, 0, none⟩)]) hk rfl rfl ok71) (c71 92 k₁ b2 _ (kcell h2) hk1) ?_
      rintro e w' ⟨rfl, hE⟩
      refine ⟨_, rfl, fun a hk => ?_⟩
      have new : Str (pad64 k₁ 92) = Str (pad64 k₁ 92) := rfl
      have f1 : d 1 = true → (.func (.func 71) #[] #[.pointer (some ⟨b2, 0, none⟩)] : Value) = .func (.func 71) #[] #[.pointer (some ⟨b2, 0, none⟩)] := fun _ => rfl
      exact ⟨_, _, _, _, _, _, _, _, _, hk.sub _ ⟨rfl, rfl, rfl, rfl, rfl, rfl, rfl, rfl, rfl, rfl, rfl, rfl, trivial⟩, ext_trans hB hE, ext_at hE h2, ext_at hE h7, fun h => f0 h, fun h => f1 h, fun _ => new, fun h => f3 h, fun h => f4 h, fun h => f5 h, fun h => f6 h, fun h => f7 h, fun h => by have f := f8 h; exact by obtain ⟨b, e, g, cs, hz, h⟩ := f; exact ⟨b, e, g, cs, hz, ext_at hE h⟩⟩
    · intro _ d a w hr hJ
      obtain ⟨v0, v1, v2, v3, v4, v5, v6, v7, v8, hk, hB, h2, h7, f0, f1, f2, f3, f4, f5, f6, f7, f8⟩ := hJ
      obtain hIs := f0 (rdy_pre hr 0 (by kernel_rfl))
      obtain rfl := f2 (rdy_pre hr 2 (by kernel_rfl))
      refine wa hk rfl rfl ?_
      refine a_call hk rfl rfl (c_fn hk rfl ok27) (c27 [] (pad64 k₁ 92) _ _ hIs (hG.ext hB) (by simp [length_pad64 _ _ hk1])) ?_
      rintro e w' ⟨v, rfl, hIs', hE⟩
      refine ⟨_, rfl, fun a hk => ?_⟩
      have new : IsS (pad64 k₁ 92) v := hIs'
      have f2 : d 2 = true → Str (pad64 k₁ 92) = Str (pad64 k₁ 92) := fun _ => rfl
      exact ⟨_, _, _, _, _, _, _, _, _, hk.sub _ ⟨rfl, rfl, rfl, rfl, rfl, rfl, rfl, rfl, rfl, rfl, rfl, rfl, trivial⟩, ext_trans hB hE, ext_at hE h2, ext_at hE h7, fun h => f0 h, fun h => f1 h, fun h => f2 h, fun _ => new, fun h => f4 h, fun h => f5 h, fun h => f6 h, fun h => f7 h, fun h => by have f := f8 h; exact by obtain ⟨b, e, g, cs, hz, h⟩ := f; exact ⟨b, e, g, cs, hz, ext_at hE h⟩⟩
    · intro _ d a w hr hJ
      obtain ⟨v0, v1, v2, v3, v4, v5, v6, v7, v8, hk, hB, h2, h7, f0, f1, f2, f3, f4, f5, f6, f7, f8⟩ := hJ
      refine wa hk rfl rfl ?_
      refine ev_act hk rfl rfl (e_slA hk rfl Tryd.underlying24 sz5 _) fun a hk => ?_
      have new : Value.slice (some ⟨b7, 0, none⟩) 32 32 = Value.slice (some ⟨b7, 0, none⟩) 32 32 := rfl
      exact ⟨_, _, _, _, _, _, _, _, _, hk.sub _ ⟨rfl, rfl, rfl, rfl, rfl, rfl, rfl, rfl, rfl, rfl, rfl, rfl, trivial⟩, hB, h2, h7, fun h => f0 h, fun h => f1 h, fun h => f2 h, fun h => f3 h, fun _ => new, fun h => f5 h, fun h => f6 h, fun h => f7 h, fun h => f8 h⟩
    · intro _ d a w hr hJ
      obtain ⟨v0, v1, v2, v3, v4, v5, v6, v7, v8, hk, hB, h2, h7, f0, f1, f2, f3, f4, f5, f6, f7, f8⟩ := hJ
      obtain rfl := f4 (rdy_pre hr 4 (by kernel_rfl))
      refine wa hk rfl rfl ?_
      refine ev_act hk rfl rfl (e_str (bs := sha (pad64 k₁ 54 ++ text)) hk rfl (sha_row h7) Tryd.underlying22 Tryd.underlying5 Tryd.underlying9) fun a hk => ?_
      have new : Str (sha (pad64 k₁ 54 ++ text)) = Str (sha (pad64 k₁ 54 ++ text)) := rfl
      have f4 : d 4 = true → Value.slice (some ⟨b7, 0, none⟩) 32 32 = Value.slice (some ⟨b7, 0, none⟩) 32 32 := fun _ => rfl
      exact ⟨_, _, _, _, _, _, _, _, _, hk.sub _ ⟨rfl, rfl, rfl, rfl, rfl, rfl, rfl, rfl, rfl, rfl, rfl, rfl, trivial⟩, hB, h2, h7, fun h => f0 h, fun h => f1 h, fun h => f2 h, fun h => f3 h, fun h => f4 h, fun _ => new, fun h => f6 h, fun h => f7 h, fun h => f8 h⟩
    · intro _ d a w hr hJ
      obtain ⟨v0, v1, v2, v3, v4, v5, v6, v7, v8, hk, hB, h2, h7, f0, f1, f2, f3, f4, f5, f6, f7, f8⟩ := hJ
      obtain hIs := f3 (rdy_pre hr 3 (by kernel_rfl))
      obtain rfl := f5 (rdy_pre hr 5 (by kernel_rfl))
      refine wa hk rfl rfl ?_
      refine a_call hk rfl rfl (c_fn hk rfl ok27) (c27 _ (sha (pad64 k₁ 54 ++ text)) _ _ hIs (hG.ext hB) (by simp [length_pad64 _ _ hk1, length_sha])) ?_
      rintro e w' ⟨v, rfl, new, hE⟩
      refine ⟨_, rfl, fun a hk => ?_⟩
      have f5 : d 5 = true → Str (sha (pad64 k₁ 54 ++ text)) = Str (sha (pad64 k₁ 54 ++ text)) := fun _ => rfl
      exact ⟨_, _, _, _, _, _, _, _, _, hk.sub _ ⟨rfl, rfl, rfl, rfl, rfl, rfl, rfl, rfl, rfl, rfl, rfl, rfl, trivial⟩, ext_trans hB hE, ext_at hE h2, ext_at hE h7, fun h => f0 h, fun h => f1 h, fun h => f2 h, fun h => f3 h, fun h => f4 h, fun h => f5 h, fun _ => new, fun h => f7 h, fun h => by have f := f8 h; exact by obtain ⟨b, e, g, cs, hz, h⟩ := f; exact ⟨b, e, g, cs, hz, ext_at hE h⟩⟩
    · intro _ d a w hr hJ
      obtain ⟨v0, v1, v2, v3, v4, v5, v6, v7, v8, hk, hB, h2, h7, f0, f1, f2, f3, f4, f5, f6, f7, f8⟩ := hJ
      obtain hIs := f6 (rdy_pre hr 6 (by kernel_rfl))
      refine wa hk rfl rfl ?_
      refine a_call hk rfl rfl (c_fn hk rfl ok29) (c29 _ _ _ hIs (hG.ext hB) (by simp [length_pad64 _ _ hk1, length_sha])) ?_
      rintro e w' ⟨rfl, hE⟩
      refine ⟨_, rfl, fun a hk => ?_⟩
      have new : Value.agg ((sha (pad64 k₁ 92 ++ sha (pad64 k₁ 54 ++ text))).map B).toArray = Value.agg ((sha (pad64 k₁ 92 ++ sha (pad64 k₁ 54 ++ text))).map B).toArray := rfl
      exact ⟨_, _, _, _, _, _, _, _, _, hk.sub _ ⟨rfl, rfl, rfl, rfl, rfl, rfl, rfl, rfl, rfl, rfl, rfl, rfl, trivial⟩, ext_trans hB hE, ext_at hE h2, ext_at hE h7, fun h => f0 h, fun h => f1 h, fun h => f2 h, fun h => f3 h, fun h => f4 h, fun h => f5 h, fun h => f6 h, fun _ => new, fun h => by have f := f8 h; exact by obtain ⟨b, e, g, cs, hz, h⟩ := f; exact ⟨b, e, g, cs, hz, ext_at hE h⟩⟩
    · intro _ d a w hr hJ
      obtain ⟨v0, v1, v2, v3, v4, v5, v6, v7, v8, hk, hB, h2, h7, f0, f1, f2, f3, f4, f5, f6, f7, f8⟩ := hJ
      refine wa hk rfl rfl ?_
      refine a_alloc hk rfl zr24 fun a w' b8 hk G8 => ?_
      have hE := G8.ext
      have new : ∃ b, (Value.pointer (some ⟨b8, 0, none⟩)) = .pointer (some ⟨b, 0, none⟩) ∧ w0.heap.size ≤ b ∧ ∃ cs : Array Value, cs.size = 32 ∧ w'.heap[b]? = some (.cells cs 24 (0, 0)) := ⟨_, rfl, Nat.le_trans hB.size G8.ge, _, rfl, G8.at_⟩
      exact ⟨_, _, _, _, _, _, _, _, _, hk.sub _ ⟨rfl, rfl, rfl, rfl, rfl, rfl, rfl, rfl, rfl, rfl, rfl, rfl, trivial⟩, ext_trans hB hE, ext_at hE h2, ext_at hE h7, fun h => f0 h, fun h => f1 h, fun h => f2 h, fun h => f3 h, fun h => f4 h, fun h => f5 h, fun h => f6 h, fun h => f7 h, fun _ => new⟩
    · intro h; cases h
  refine wp_seq_k fun K7 hK7 => ?_
  refine wp_region_lit ?_
  refine ls hk rfl rfl rfl (r_load (v := Str key) hk rfl Tryd.underlying9 rfl h2 rfl) fun a hk => ?_
  refine ls hk rfl rfl rfl (e_lenStr hk rfl Tryd.underlying9 _) fun a hk => ?_
  refine ls hk rfl rfl rfl (e_gtr hk rfl rfl rfl _) fun a hk => ?_
  refine lnil (hK7 _ _ ?_)
  refine cdB hk rfl (fun hb => ?_) (fun hb => ?_)
  · have hlong : key.length > 64 := by have := of_decide_eq_true hb; omega
    refine wp_seq_k fun K8 hK8 => ?_
    refine wp_region_lit ?_
    refine ls hk rfl rfl rfl (r_load (v := Str key) hk rfl Tryd.underlying9 rfl h2 rfl) fun a hk => ?_
    refine la hk rfl (a_bytes hk rfl rfl Tryd.underlying9 Tryd.underlying22 Tryd.underlying5 fun a w bb cc hk hgb hE hRb => ?_)
    have h2 := ext_at hE h2
    have hB := ext_trans hB hE
    refine la hk rfl (a_call hk rfl rfl (c_fn hk rfl ok23) (c23 key _ _ _ _ hRb (hG.ext hB) (by omega)) ?_)
    rintro e w ⟨rfl, hE⟩
    refine ⟨_, rfl, fun a hk => ?_⟩
    have h2 := ext_at hE h2
    have hB := ext_trans hB hE
    refine la hk rfl (a_alloc hk rfl zr24 fun a w b5 hk G5 => ?_)
    refine la hk rfl (a_storeB hk rfl rfl (bytes_oneA _) (by rw [sz24]; simp [length_sha]) G5.at_ (by simp [length_sha, Value.cells]) fun a w hk W2 => ?_)
    have h2 := W2.keep (G5.ne h2) (ext_at G5.ext h2)
    have hB := W2.below (ext_trans hB G5.ext) (Nat.le_trans hB.size G5.ge)
    have h5 := W2.at_
    refine lnil (hK8 _ _ ?_)
    refine wp_region_lit ?_
    refine ls hk rfl rfl rfl (e_slA hk rfl Tryd.underlying24 sz5 _) fun a hk => ?_
    refine ls hk rfl rfl rfl (e_str (bs := sha key) hk rfl (sha_row h5) Tryd.underlying22 Tryd.underlying5 Tryd.underlying9) fun a hk => ?_
    refine la hk rfl (a_store hk rfl rfl rfl sz9 h2 Nat.zero_lt_one fun a w hk W3 => ?_)
    have hB := W3.below hB hg2
    have h2 : w.heap[b2]? = some (.cells #[Str (sha key)] 9 (0, 0)) := W3.at_
    refine lnil (hJ2 _ _ ⟨hk.sub _ ⟨rfl, rfl, trivial⟩, hB, by first | (rw [if_pos hlong]; exact h2) | (rw [if_neg hshort]; exact h2)⟩)
  · have hshort : ¬ key.length > 64 := by have := of_decide_eq_false hb; omega
    refine wp_skip (hJ2 _ _ ⟨hk.sub _ ⟨rfl, rfl, trivial⟩, hB, by first | (rw [if_pos hlong]; exact h2) | (rw [if_neg hshort]; exact h2)⟩)

end Go.Proofs.YtidfbboalbchiaaDoor
