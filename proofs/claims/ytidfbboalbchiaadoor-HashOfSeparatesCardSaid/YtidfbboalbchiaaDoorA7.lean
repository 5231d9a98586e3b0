/- The walks of hash.Of, hash.Mac and hash.Equal. -/
import Derived.Test.YtidfbboalbchiaaDoorA6
import Derived.Test.YtidfbboalbchiaaDoorInv
namespace Go.Proofs.YtidfbboalbchiaaDoor
open Go Go.RowKit

/-- What Of hashes. -/
def ofIn (n : Int) (ps : List (List UInt8)) : List UInt8 := byteOf n :: (ps.map encB).flatten
/-- The row of the pieces: strings. -/
def Rs (w : World) (ad : Option Addr) (n c : Nat) (ps : List (List UInt8)) : Prop := Rd w ad n c 1 (ps.map Str)
theorem length_encB (s : List UInt8) : (encB s).length ≤ s.length + 9 := by
  have := length_encI_le (s.length : Int)
  rw [encB, List.length_append]; omega
theorem flat_take (ps : List (List UInt8)) (j : Nat) (x : List UInt8) (h : ps[j]? = some x) : ((ps.take (j + 1)).map encB).flatten = ((ps.take j).map encB).flatten ++ encB x := by
  obtain ⟨hj, rfl⟩ := List.getElem?_eq_some_iff.1 h
  rw [List.take_add_one, List.getElem?_eq_getElem hj]
  simp only [Option.toList_some, List.map_append, List.flatten_append, List.map_cons, List.map_nil, List.flatten_cons, List.flatten_nil, List.append_nil]
theorem IsS.one {m : List UInt8} {v : Value} (h : IsS m v) : ∃ cs : List Value, v = .agg cs.toArray ∧ cs.length = 73 ∧ ∀ u ∈ cs.toArray, u.oneCell' = true := by
  obtain ⟨blk, hb, rfl⟩ := h
  exact ⟨_, rfl, length_sc _ _ _ hb.1, sc_one _ _ _⟩
theorem Rs.get {w : World} {ad : Option Addr} {n c : Nat} {ps : List (List UInt8)} (h : Rs w ad n c ps) (j : Nat) (x : List UInt8) (hx : ps[j]? = some x) : ∃ b o, ad = some ⟨b, o, none⟩ ∧ w.cell? ⟨b, o + j, none⟩ = some (Str x) :=
  h.2.2 j (Str x) (by simp [hx])
theorem Rs.len {w : World} {ad : Option Addr} {n c : Nat} {ps : List (List UInt8)} (h : Rs w ad n c ps) : ps.length = n := by have := h.1; simpa using this

theorem IsS.len {m : List UInt8} {cs : Array Value} (h : IsS m (.agg cs)) : cs.size = 73 := by
  obtain ⟨blk, hb, e⟩ := h
  cases e
  have := length_sc (state m) blk m.length hb.1
  simpa using this
theorem flat_len (k : Nat) : ∀ (ps : List (List UInt8)), (∀ x ∈ ps, x.length ≤ k) → ((ps.map encB).flatten).length ≤ ps.length * (k + 9) := by
  intro ps
  induction ps with
  | nil => intro _; simp
  | cons x r ih =>
    intro h
    have h1 := ih fun y hy => h y (List.mem_cons_of_mem _ hy)
    have h2 := h x (List.mem_cons_self ..)
    have h3 := length_encB x
    simp only [List.map_cons, List.flatten_cons, List.length_append, List.length_cons]
    rw [Nat.succ_mul]; omega
theorem mlen {b : UInt8} (ps : List (List UInt8)) (h : ∀ x ∈ ps, x.length ≤ 1000000) (j : Nat) : (b :: ((ps.take j).map encB).flatten).length ≤ 1 + ps.length * 1000009 := by
  have h1 := flat_len 1000000 (ps.take j) fun x hx => h x (List.mem_of_mem_take hx)
  have h2 : (ps.take j).length * 1000009 ≤ ps.length * 1000009 := Nat.mul_le_mul_right _ (by simp; omega)
  simp only [List.length_cons]; omega
theorem range16 (m : List UInt8) (i : Nat) (hi : i < (((sha m).take 16).map B).length) : ((sha m).map B).toArray[0 + i]? = (((sha m).take 16).map B)[i]? := by
  have hi' : i < 16 := by simp at hi; omega
  simp [hi']

set_option maxRecDepth 4000 in
set_option maxHeartbeats 1000000 in
theorem c35 (n₀ : Int) (ps : List (List UInt8)) (ad : Option Addr) (c : Nat) (w0 : World) (hR : Rs w0 ad ps.length c ps) (hG : GH w0) (hn : ps.length ≤ 1000000) (hlen : ∀ x ∈ ps, x.length ≤ 1000000) :
    Calls Tryd.prog 35 #[I n₀, .slice ad ps.length c] w0 fun e w' => e = .returned (.agg (((sha (ofIn n₀ ps)).take 16).map B).toArray) ∧ Ext w0 w' := by
  refine start 32 Tryd.func35 rfl rfl rfl fun a hk => ?_
  refine wp_seq_k fun K1 hK1 => ?_
  refine wp_region_lit ?_
  refine la hk rfl (a_alloc hk rfl zr44 fun a w b4 hk G4 => ?_)
  refine lnil (hK1 _ _ ?_)
  refine wp_seq_k fun K2 hK2 => ?_
  refine wp_region_ok (fun _ => True) [] mixed ?_
  have hB := G4.ext.drew
  obtain ⟨z4, h4, hz4⟩ : ∃ z4 : Array Value, w.drew.heap[b4]? = some (.cells z4 44 (0, 0)) ∧ z4.size = 16 := ⟨_, G4.at_, rfl⟩
  have hg4 := G4.ge
  refine okFront (fun k => Nat.blt k 7) (fun d a w => ∃ v0 v1 v2 v3 v4 v5 v6 : Value, Kn a 32 [(9, v0), (10, v1), (11, v2), (12, v3), (13, v4), (14, v5), (5, v6), (4, .pointer (some ⟨b4, 0, none⟩)), (0, I n₀), (1, .slice ad ps.length c)] ∧ (Below w0.heap.size w0 w) ∧ (w.heap[b4]? = some (.cells z4 44 (0, 0))) ∧ (d 0 = true → IsS [] v0) ∧ (d 1 = true → v1 = I n₀) ∧ (d 2 = true → v2 = B (byteOf n₀)) ∧ (d 3 = true → ∃ ad c, v3 = .slice ad 1 c ∧ Rd w ad 1 c 1 ([byteOf n₀].map B)) ∧ (d 4 = true → v4 = Str [byteOf n₀]) ∧ (d 5 = true → IsS [byteOf n₀] v5) ∧ (d 6 = true → ∃ b, v6 = .pointer (some ⟨b, 0, none⟩) ∧ w0.heap.size ≤ b ∧ b ≠ b4 ∧ ∃ cs : Array Value, cs.size = 73 ∧ w.heap[b]? = some (.cells cs 34 (0, 0)))) 1 (by kernel_rfl) (fun k hk => Nat.lt_of_lt_of_le (blt_lt hk) (by decide)) ⟨_, _, _, _, _, _, _, (((((((hk.own 5).own 14).own 13).own 12).own 11).own 10).own 9).sub _ ⟨rfl, rfl, rfl, rfl, rfl, rfl, rfl, rfl, rfl, rfl, trivial⟩, hB, h4, fun h => noF h, fun h => noF h, fun h => noF h, fun h => noF h, fun h => noF h, fun h => noF h, fun h => noF h⟩ (fun a w hJ => ?_) ?_
  · obtain ⟨v0, v1, v2, v3, v4, v5, v6, hk, hB, h4, f0, f1, f2, f3, f4, f5, f6⟩ := hJ
    have p0 := f0 rfl
    have p1 := f1 rfl
    have p2 := f2 rfl
    have p3 := f3 rfl
    have p4 := f4 rfl
    have p5 := f5 rfl
    have p6 := f6 rfl
    obtain ⟨b5, rfl, hg5, hne, z5, hz5, h5⟩ := p6
    clear p0 p1 p2 p3 p4
    obtain ⟨cs, rfl, hcl, hc1⟩ := p5.one
    refine da 7 hk rfl (by kernel_rfl) rfl rfl (a_storeB hk rfl rfl hc1 (by rw [sz34]; simp [hcl]) h5 (by simp [hcl, hz5]) fun a w hk W7 => ?_)
    have hB := W7.below hB hg5
    have h4 := W7.keep (Ne.symm hne) h4
    have h5 : ∃ v, IsS [byteOf n₀] (.agg v) ∧ w.heap[b5]? = some (.cells v 34 (0, 0)) := ⟨_, p5, W7.at_⟩
    clear W7 p5
    refine okFin (by kernel_rfl) (hK2 _ _ ?_)
    refine wp_seq_k fun K3 hK3 => ?_
    refine wp_seq_k fun K4 hK4 => ?_
    refine wp_region_lit ?_
    refine ls hk rfl rfl rfl (e_move hk rfl _) fun a hk => ?_
    refine ls hk rfl rfl rfl (e_lenS hk rfl Tryd.underlying27 _) fun a hk => ?_
    refine ls hk rfl rfl rfl (e_move hk rfl _) fun a hk => ?_
    refine lnil (hK4 _ _ ?_)
    refine wp_block ?_
    refine loopN (fun n a w => ∃ j : Nat, n = ps.length - j ∧ j ≤ ps.length ∧ Kn a 32 [(4, .pointer (some ⟨b4, 0, none⟩)), (5, .pointer (some ⟨b5, 0, none⟩)), (15, .slice ad ps.length c), (16, I ps.length), (17, I j)] ∧ Below w0.heap.size w0 w ∧ w.heap[b4]? = some (.cells z4 44 (0, 0)) ∧ ∃ v, IsS (byteOf n₀ :: ((ps.take j).map encB).flatten) (.agg v) ∧ w.heap[b5]? = some (.cells v 34 (0, 0))) (ps.length) ?_ fun n a w hI => ?_
    · exact ⟨0, rfl, Nat.zero_le _, hk.sub _ ⟨rfl, rfl, rfl, rfl, rfl, trivial⟩, hB, h4, h5⟩
    clear hB h4 h5
    obtain ⟨j, rfl, hj, hk, hB, h4, v5, hIs, h5⟩ := hI
    refine wp_seq_k fun K5 hK5 => ?_
    refine wp_region_lit ?_
    refine ls hk rfl rfl rfl (e_lss hk rfl rfl rfl _) fun a hk => ?_
    refine lnil (hK5 _ _ ?_)
    refine wp_seq_k fun K6 hK6 => ?_
    refine cdB hk rfl (fun hb => ?_) (fun hb => ?_)
    · have hjl : j < ps.length := by have := of_decide_eq_true hb; omega
      obtain ⟨x, hx⟩ : ∃ x, ps[j]? = some x := ⟨_, List.getElem?_eq_getElem hjl⟩
      obtain ⟨bp, op, rfl, hcell⟩ := Rs.get (Rd.below hR hB (Nat.le_refl _)) j x hx
      have hxl := hlen x (List.mem_of_getElem? hx)
      refine wp_skip (hK6 _ _ ?_)
      refine wp_seq_k fun K7 hK7 => ?_
      refine wp_block ?_
      refine wp_seq_k fun K8 hK8 => ?_
      refine wp_region_lit ?_
      refine ls hk rfl rfl rfl (e_idxS1 j hk rfl rfl Tryd.underlying27 sz9 rfl hjl _) fun a hk => ?_
      refine ls hk rfl rfl rfl (r_load1 (v := Str x) hk rfl Tryd.underlying9 rfl hcell) fun a hk => ?_
      refine ls hk rfl rfl rfl (e_assign hk rfl _) fun a hk => ?_
      refine lnil (hK8 _ _ ?_)
      refine wp_region_ok (fun w => w.heap[b5]? = some (.cells v5 34 (0, 0))) [3, 0, 4, 1, 2, 2] mixed ?_
      have hB := hB.drew
      have h4 : w.drew.heap[b4]? = _ := h4
      have hS : w.drew.heap[b5]? = _ := h5
      have h73 : v5.size = 73 := hIs.len
      have hml := mlen (b := byteOf n₀) ps hlen j
      refine d3 0 hk rfl (by kernel_rfl) rfl rfl rfl rfl hS (fun w hS => r_loadB hk rfl hS Tryd.underlying34 rfl (by rw [sz34, h73])) fun a hk => ?_
      refine d0 1 hk rfl (by kernel_rfl) rfl rfl rfl rfl (fun _ => e_move hk rfl _) fun a hk => ?_
      refine da4 2 hk rfl (by kernel_rfl) rfl rfl hS (a_call hk rfl rfl (c_fn hk rfl ok73) (c73 x _ (by omega)) ?_)
      rintro e w ⟨ade, ce, rfl, hown, hE⟩
      refine ⟨_, rfl, fun a hk => ⟨ext_at hE hS, ?_⟩⟩
      have hS := ext_at hE hS
      have h4 := ext_at hE h4
      have hB := ext_trans hB hE
      obtain ⟨ade', ce', hv, _, hRe⟩ := Rd.of_own hown
      obtain ⟨rfl, rfl⟩ : ade = ade' ∧ ce = ce' := by cases hv; exact ⟨rfl, rfl⟩
      refine d1 3 hk rfl (by kernel_rfl) rfl rfl rfl rfl (e_str hk rfl hRe Tryd.underlying22 Tryd.underlying5 Tryd.underlying9) fun a hk => ?_
      refine da 4 hk rfl (by kernel_rfl) rfl rfl (a_call hk rfl rfl (c_fn hk rfl ok27) (c27 _ (encB x) _ _ hIs (hG.ext hB) (by have := length_encB x; omega)) ?_)
      rintro e w ⟨v, rfl, hIs', hE⟩
      refine ⟨_, rfl, fun a hk => ?_⟩
      have hS := ext_at hE hS
      have h4 := ext_at hE h4
      have hB := ext_trans hB hE
      obtain ⟨cs, rfl, hcl, hc1⟩ := hIs'.one
      refine da 5 hk rfl (by kernel_rfl) rfl rfl (a_storeB hk rfl rfl hc1 (by rw [sz34]; simp [hcl]) hS (by simp [hcl, h73]) fun a w hk W5 => ?_)
      have hB := W5.below hB hg5
      have h4 := W5.keep (Ne.symm hne) h4
      have h5 : ∃ v, IsS (byteOf n₀ :: ((ps.take (j + 1)).map encB).flatten) (.agg v) ∧ w.heap[b5]? = some (.cells v 34 (0, 0)) := ⟨_, by rw [flat_take _ _ _ hx]; exact hIs', W5.at_⟩
      clear W5
      refine okFin (by kernel_rfl) (hK7 _ _ ?_)
      refine wp_region_lit ?_
      refine ls hk rfl rfl rfl (e_add hk rfl rfl (i64 (by omega) (by omega)) _) fun a hk => ?_
      refine ls hk rfl rfl rfl (e_move hk rfl _) fun a hk => ?_
      refine lnil (show ∃ m : Nat, m < _ ∧ _ from ⟨ps.length - (j + 1), by omega, j + 1, rfl, by omega, hk.sub _ ⟨rfl, rfl, rfl, rfl, rfl, trivial⟩, hB, h4, h5⟩)
    · have hjl : j = ps.length := by have := of_decide_eq_false hb; omega
      subst hjl
      rw [List.take_length] at hIs
      refine wp_exit (hK3 _ _ ?_)
      refine wp_seq_k fun K9 hK9 => ?_
      refine wp_region_lit ?_
      refine ls hk rfl rfl rfl (r_loadB hk rfl h5 Tryd.underlying34 rfl (by rw [sz34, hIs.len])) fun a hk => ?_
      refine la hk rfl (a_call hk rfl rfl (c_fn hk rfl ok29) (c29 _ _ _ hIs (hG.ext hB) (by have := mlen (b := byteOf n₀) ps hlen ps.length; rw [List.take_length] at this; omega)) ?_)
      rintro e w ⟨rfl, hE⟩
      refine ⟨_, rfl, fun a hk => ?_⟩
      have h4 := ext_at hE h4
      have hB := ext_trans hB hE
      refine la hk rfl (a_alloc hk rfl zr24 fun a w b8 hk G8 => ?_)
      refine la hk rfl (a_storeB hk rfl rfl (bytes_oneA _) (by rw [sz24]; simp [length_sha]) G8.at_ (by simp [length_sha, Value.cells]) fun a w hk W7 => ?_)
      have h4 := W7.keep (G8.ne h4) (ext_at G8.ext h4)
      have hB := W7.below (ext_trans hB G8.ext) (Nat.le_trans hB.size G8.ge)
      have h8 := W7.at_
      refine lnil (hK9 _ _ ?_)
      refine wp_seq_k fun K10 hK10 => ?_
      refine wp_region_lit ?_
      refine ls hk rfl rfl rfl (e_slAto (i := 16) hk rfl rfl Tryd.underlying24 sz5 (by decide) (by decide) _) fun a hk => ?_
      refine ls hk rfl rfl rfl (e_s2a hk rfl Tryd.underlying44 (by decide) _) fun a hk => ?_
      refine ls hk rfl rfl rfl (r_loadR (xs := ((sha (ofIn n₀ ps)).take 16).map B) hk rfl (range_block h8 (fun i hi => range16 _ i hi)) Tryd.underlying44 rfl (by rw [sz44]; simp [length_sha])) fun a hk => ?_
      refine la hk rfl (a_storeB hk rfl rfl (bytes_oneA _) (by rw [sz44]; simp [length_sha]) h4 (by simp [length_sha, hz4]) fun a w hk W8 => ?_)
      refine lnil (hK10 _ _ ?_)
      refine wp_ret ?_
      exact retA hk rfl rfl W8.at_ Tryd.underlying44 rfl (by rw [sz44]; simp [length_sha]) ⟨rfl, W8.below hB hg4⟩
  refine ⟨?_, ?_, ?_, ?_, ?_, ?_, ?_, ?_, trivial⟩
  · intro _ d a w hr hJ
    obtain ⟨v0, v1, v2, v3, v4, v5, v6, hk, hB, h4, f0, f1, f2, f3, f4, f5, f6⟩ := hJ
    refine wa hk rfl rfl ?_
    refine a_call hk rfl rfl (c_fn (vs := []) hk rfl ok26) (c26 _) ?_
    rintro e w' ⟨v, rfl, new, hE⟩
    refine ⟨_, rfl, fun a hk => ?_⟩
    exact ⟨_, _, _, _, _, _, _, hk.sub _ ⟨rfl, rfl, rfl, rfl, rfl, rfl, rfl, rfl, rfl, rfl, trivial⟩, ext_trans hB hE, ext_at hE h4, fun _ => new, fun h => f1 h, fun h => f2 h, fun h => by have f := f3 h; exact by obtain ⟨x, y, e, h⟩ := f; exact ⟨x, y, e, h.ext hE⟩, fun h => f4 h, fun h => f5 h, fun h => by have f := f6 h; exact by obtain ⟨b, e, g, ne, cs, hz, h⟩ := f; exact ⟨b, e, g, ne, cs, hz, ext_at hE h⟩⟩
  · intro _ d a w hr hJ
    obtain ⟨v0, v1, v2, v3, v4, v5, v6, hk, hB, h4, f0, f1, f2, f3, f4, f5, f6⟩ := hJ
    refine wa hk rfl rfl ?_
    refine ev_act hk rfl rfl (e_move hk rfl _) fun a hk => ?_
    have new : I n₀ = I n₀ := rfl
    exact ⟨_, _, _, _, _, _, _, hk.sub _ ⟨rfl, rfl, rfl, rfl, rfl, rfl, rfl, rfl, rfl, rfl, trivial⟩, hB, h4, fun h => f0 h, fun _ => new, fun h => f2 h, fun h => f3 h, fun h => f4 h, fun h => f5 h, fun h => f6 h⟩
  · intro _ d a w hr hJ
    obtain ⟨v0, v1, v2, v3, v4, v5, v6, hk, hB, h4, f0, f1, f2, f3, f4, f5, f6⟩ := hJ
    obtain rfl := f1 (rdy_pre hr 1 (by kernel_rfl))
    refine wa hk rfl rfl ?_
    refine ev_act hk rfl rfl (e_conv hk rfl Tryd.underlying3 Tryd.underlying5 (i_b _) _) fun a hk => ?_
    have new : B (byteOf n₀) = B (byteOf n₀) := rfl
    exact ⟨_, _, _, _, _, _, _, hk.sub _ ⟨rfl, rfl, rfl, rfl, rfl, rfl, rfl, rfl, rfl, rfl, trivial⟩, hB, h4, fun h => f0 h, fun h => f1 h, fun _ => new, fun h => f3 h, fun h => f4 h, fun h => f5 h, fun h => f6 h⟩
  · intro _ d a w hr hJ
    obtain ⟨v0, v1, v2, v3, v4, v5, v6, hk, hB, h4, f0, f1, f2, f3, f4, f5, f6⟩ := hJ
    obtain rfl := f2 (rdy_pre hr 2 (by kernel_rfl))
    refine wa hk rfl rfl ?_
    refine a_lit (cells := #[B (byteOf n₀)]) (zv := .int .u8 0) (sz := 1) (by_ := 1) hk rfl rfl Tryd.underlying22 el5 (by decide) (by decide) (lit1 _ _ rfl) rfl fun a w' bl hk GL => ?_
    have hE := GL.ext
    have new : ∃ ad c, (Value.slice (some ⟨bl, 0, none⟩) 1 1) = .slice ad 1 c ∧ Rd w' ad 1 c 1 ([byteOf n₀].map B) := ⟨_, _, rfl, lit_byte _ GL⟩
    exact ⟨_, _, _, _, _, _, _, hk.sub _ ⟨rfl, rfl, rfl, rfl, rfl, rfl, rfl, rfl, rfl, rfl, trivial⟩, ext_trans hB hE, ext_at hE h4, fun h => f0 h, fun h => f1 h, fun h => f2 h, fun _ => new, fun h => f4 h, fun h => f5 h, fun h => by have f := f6 h; exact by obtain ⟨b, e, g, ne, cs, hz, h⟩ := f; exact ⟨b, e, g, ne, cs, hz, ext_at hE h⟩⟩
  · intro _ d a w hr hJ
    obtain ⟨v0, v1, v2, v3, v4, v5, v6, hk, hB, h4, f0, f1, f2, f3, f4, f5, f6⟩ := hJ
    obtain ⟨ad3, c3, rfl, hR3⟩ := f3 (rdy_pre hr 3 (by kernel_rfl))
    refine wa hk rfl rfl ?_
    refine ev_act hk rfl rfl (e_str hk rfl hR3 Tryd.underlying22 Tryd.underlying5 Tryd.underlying9) fun a hk => ?_
    have new : Str [byteOf n₀] = Str [byteOf n₀] := rfl
    have f3 : d 3 = true → ∃ ad c, (Value.slice ad3 1 c3) = .slice ad 1 c ∧ Rd w ad 1 c 1 ([byteOf n₀].map B) := fun _ => ⟨_, _, rfl, hR3⟩
    exact ⟨_, _, _, _, _, _, _, hk.sub _ ⟨rfl, rfl, rfl, rfl, rfl, rfl, rfl, rfl, rfl, rfl, trivial⟩, hB, h4, fun h => f0 h, fun h => f1 h, fun h => f2 h, fun h => f3 h, fun _ => new, fun h => f5 h, fun h => f6 h⟩
  · intro _ d a w hr hJ
    obtain ⟨v0, v1, v2, v3, v4, v5, v6, hk, hB, h4, f0, f1, f2, f3, f4, f5, f6⟩ := hJ
    obtain hIs := f0 (rdy_pre hr 0 (by kernel_rfl))
    obtain rfl := f4 (rdy_pre hr 4 (by kernel_rfl))
    refine wa hk rfl rfl ?_
    refine a_call hk rfl rfl (c_fn hk rfl ok27) (c27 [] [byteOf n₀] _ _ hIs (hG.ext hB) (by simp)) ?_
    rintro e w' ⟨v, rfl, hIs', hE⟩
    refine ⟨_, rfl, fun a hk => ?_⟩
    have new : IsS [byteOf n₀] v := hIs'
    exact ⟨_, _, _, _, _, _, _, hk.sub _ ⟨rfl, rfl, rfl, rfl, rfl, rfl, rfl, rfl, rfl, rfl, trivial⟩, ext_trans hB hE, ext_at hE h4, fun h => f0 h, fun h => f1 h, fun h => f2 h, fun h => by have f := f3 h; exact by obtain ⟨x, y, e, h⟩ := f; exact ⟨x, y, e, h.ext hE⟩, fun h => f4 h, fun _ => new, fun h => by have f := f6 h; exact by obtain ⟨b, e, g, ne, cs, hz, h⟩ := f; exact ⟨b, e, g, ne, cs, hz, ext_at hE h⟩⟩
  · intro _ d a w hr hJ
    obtain ⟨v0, v1, v2, v3, v4, v5, v6, hk, hB, h4, f0, f1, f2, f3, f4, f5, f6⟩ := hJ
    refine wa hk rfl rfl ?_
    refine a_alloc hk rfl zr34 fun a w' b5 hk G5 => ?_
    have hE := G5.ext
    have new : ∃ b, (Value.pointer (some ⟨b5, 0, none⟩)) = .pointer (some ⟨b, 0, none⟩) ∧ w0.heap.size ≤ b ∧ b ≠ b4 ∧ ∃ cs : Array Value, cs.size = 73 ∧ w'.heap[b]? = some (.cells cs 34 (0, 0)) := ⟨_, rfl, Nat.le_trans hB.size G5.ge, Ne.symm (G5.ne h4), _, rfl, G5.at_⟩
    exact ⟨_, _, _, _, _, _, _, hk.sub _ ⟨rfl, rfl, rfl, rfl, rfl, rfl, rfl, rfl, rfl, rfl, trivial⟩, ext_trans hB hE, ext_at hE h4, fun h => f0 h, fun h => f1 h, fun h => f2 h, fun h => by have f := f3 h; exact by obtain ⟨x, y, e, h⟩ := f; exact ⟨x, y, e, h.ext hE⟩, fun h => f4 h, fun h => f5 h, fun _ => new⟩
  · intro h; cases h

end Go.Proofs.YtidfbboalbchiaaDoor
