/- The law TreeRoots: its row and its tied card. Conditions: none beyond the row's. -/
import Derived.Test.YtidfbboalbchiaaDoorT12
import Derived.Test.YtidfbboalbchiaaDoorVA43
import Derived.Test.YtidfbboalbchiaaDoorHead
import Derived.Test.YtidfbboalbchiaaDoorTie
import Derived.Test.YtidfbboalbchiaaDoorCards
import Derived.SevenTiedAt
import Derived.Deep.DeepHandedRow
namespace Go.Proofs.YtidfbboalbchiaaDoor
open Go Go.ChangeShapes Go.WideShapes Go.ChangeAt Go.RowKit
open Go.ChangeMaps (open_string shut_string)

/-- The strings of an opened slice, as they stand in memory. -/
theorem rs_in2 {w : World} {x : Addr} {len cap : Nat} {ss : List ByteArray} (hl : len ≤ cap) (hz : ss.length = cap) (hcell : ∀ i, i < ss.length → w.cell? (x.add i) = some (.string (ss.getD i ByteArray.empty))) :
    Rs w (some x) len cap ((ss.take len).map fun s => s.data.toList) := by
  refine ⟨by simp; omega, hl, fun i u hu => ?_⟩
  obtain ⟨b, off, spot⟩ := x
  have hi : i < len := by
    have := (List.getElem?_eq_some_iff.1 hu).1
    simp at this; omega
  have hc := hcell i (by omega)
  have hspot : spot = none := by simpa [Addr.add] using World.cell?_spot (hcell 0 (by omega))
  subst hspot
  rw [Addr.add_lit] at hc
  refine ⟨b, off, rfl, ?_⟩
  rw [hc]
  have hzi : i < ss.length := by omega
  have hv : ss.getD i ByteArray.empty = ss[i] := by simp [hzi]
  rw [hv, ← hu]
  simp [hi, hzi]
/-- Each string of a slice within the form's reach is within it. -/
theorem reach_strs {H : Type} {ss : List ByteArray} {rest : List (DataW H)} (h : ((DataW.slice (strs (H := H) ss) rest).weights Tryd.prog 27).all (· ≤ reachBytes) = true) : ∀ x ∈ ss.map (fun s => s.data.toList), x.length ≤ 140737488351232 := by
  have hw : (DataW.weightsAll Tryd.prog 9 (strs (H := H) ss)).all (· ≤ reachBytes) = true := by
    simp only [DataW.weights, Tryd.underlying27, List.all_cons, List.all_append, Bool.and_eq_true] at h
    exact h.2.1
  clear h
  induction ss with
  | nil => intro x hx; simp at hx
  | cons s r ih =>
    simp only [strs, List.map_cons, DataW.weightsAll, DataW.weights, List.all_append, List.all_cons, List.all_nil, Bool.and_eq_true, Bool.and_true, decide_eq_true_eq] at hw
    intro x hx
    rcases List.mem_cons.1 hx with rfl | hx
    · exact hw.1
    · exact ih hw.2 x hx

theorem treeRoots_reads (os : Os) {H : Type} (enc : TypeId × Value → H) : ∃ places, DataW.whole enc Tryd.prog ((World.doorLaid Tryd.prog 19 os).forCall (fun _ _ => 0) ⟨#[], #[.slice none 0 0, .int .i64 0, .int .i64 0, .slice none 0 0], []⟩).memory Tryd.f12.params.toList Rows.treeRootsSpec.vars false #[.slice none 0 0, .int .i64 0, .int .i64 0, .slice none 0 0].toList 8 = some ([.nil, .lit (.int .i64 0), .lit (.int .i64 0), .nil], [], places) :=
  ⟨[], by kernel_rfl⟩

set_option maxRecDepth 100000 in
theorem treeRoots_lifted (os : Os) (started : os.Started) (H : Type) (enc : TypeId × Value → H) (F : Stop.Interp) :
    ReturnsInHanded {} Tryd.checked os 12 .any ((OpenSpec.ofChange Rows.treeRootsSpec).preRow enc Tryd.prog Tryd.f12 Rows.treeRootsRow.domain false Rows.treeRootsRow.laid) (((OpenSpec.ofChange Rows.treeRootsSpec).at F).post enc Tryd.prog Tryd.f12 false true false false) := by
  obtain ⟨places, hx⟩ := treeRoots_reads os enc
  refine returnsInHanded_of_row (C := Tryd.checked) (s := OpenSpec.ofChange Rows.treeRootsSpec) Tryd.own started (by kernel_rfl) Tryd.func12
    (witness_row_at (enc := enc) (C := Tryd.checked) false (World.doorLaid Tryd.prog 19 os) #[.slice none 0 0, .int .i64 0, .int .i64 0, .slice none 0 0] rfl (by kernel_rfl) (by kernel_rfl) (by kernel_rfl)
      (OpenSpec.preRow_of_cond 8 hx (by kernel_rfl) (fun k hk => by cases hk) (by kernel_rfl) (door_met2 os _))) ?_
  intro W base args ds gs before hval0 hW _ _ hweigh hL _ _
  have hval : ∀ (j : Nat) t v, Tryd.f12.params[j]? = some t → args[j]? = some v → Value.okWide Tryd.prog W .any base t v := hval0
  have hW' : DataW.Whole enc Tryd.prog Tryd.f12.params.toList Rows.treeRootsSpec.vars false W args.toList ds gs before := hW
  have hweigh : (DataW.weightsEach Tryd.prog (Tryd.f12.params.toList ++ []) (ds ++ gs)).all (· ≤ reachBytes) = true := hweigh
  obtain ⟨p, q, hA0, hV, rfl, hfz, hnd⟩ := hW
  have hA : DataW.TrodAll enc Tryd.prog W 0 (fun _ => true) true Tryd.f12.params.toList args.toList ds p := hA0
  rw [Tryd.params12] at hA hval
  obtain ⟨v0, vs0, d0, ds0, p0, q0, hargs, rfl, rfl, h0, r0⟩ := trodAll_cons hA
  obtain ⟨v1, vs1, d1, ds1, p1, q1, rfl, rfl, rfl, h1, r1⟩ := trodAll_cons r0
  obtain ⟨v2, vs2, d2, ds2, p2, q2, rfl, rfl, rfl, h2, r2⟩ := trodAll_cons r1
  obtain ⟨v3, vs3, d3, ds3, p3, q3, rfl, rfl, rfl, h3, r3⟩ := trodAll_cons r2
  obtain ⟨rfl, rfl, rfl⟩ := trodAll_nil r3
  obtain rfl : args = #[v0, v1, v2, v3] := by cases args; simp_all
  have hV : DataW.TrodVars enc Tryd.prog W (fun _ => true) [] gs q := hV
  obtain ⟨rfl, rfl⟩ := trodVars_none hV
  have hbd : (d3.weights Tryd.prog 27).all (· ≤ reachBytes) = true := by
    rw [Tryd.params12] at hweigh
    simp only [List.append_nil, DataW.weightsEach, List.all_append, Bool.and_eq_true] at hweigh
    exact hweigh.2.2.2
  have k0 := h0
  have lt0 : ∀ x ∈ p0, x.block < W.heap.size := by obtain ⟨m, hm⟩ := k0; exact DataW.trod_lt m _ _ _ hm
  have k1 := h1
  have lt1 : ∀ x ∈ p1, x.block < W.heap.size := by obtain ⟨m, hm⟩ := k1; exact DataW.trod_lt m _ _ _ hm
  have k2 := h2
  have lt2 : ∀ x ∈ p2, x.block < W.heap.size := by obtain ⟨m, hm⟩ := k2; exact DataW.trod_lt m _ _ _ hm
  have k3 := h3
  have lt3 : ∀ x ∈ p3, x.block < W.heap.size := by obtain ⟨m, hm⟩ := k3; exact DataW.trod_lt m _ _ _ hm
  obtain ⟨a0, len0, cap0, rfl⟩ := okWide_slice Tryd.underlying45 (hval 0 45 v0 rfl rfl)
  obtain ⟨m0, rfl, hR0, hz0⟩ : ∃ m : List Int, m.length = len0 ∧ Ri W a0 len0 cap0 m ∧ ∀ n ∈ m, is64 n := by
    obtain ⟨fuel, hf⟩ := h0
    rcases open_ints Tryd.underlying45 Tryd.underlying3 c3' hf with ⟨hcs, _⟩ | ⟨x, l, c, zs, hcs, _, hl, hm, hz, _, hcell, hwz⟩
    · simp [Value.cells] at hcs
      obtain ⟨rfl, rfl, rfl⟩ := hcs
      exact ⟨[], rfl, ⟨by simp, Nat.le_refl _, fun i u hu => by simp at hu⟩, by simp⟩
    · simp [Value.cells] at hcs
      obtain ⟨rfl, rfl, rfl⟩ := hcs
      exact ri_in hl (by simpa using hz) hcell hwz
  obtain ⟨n1, rfl, rfl, rfl, hw1⟩ := open_int Tryd.underlying3 (hval 1 3 v1 rfl rfl) h1
  have hi1 := i64_wf hw1
  obtain ⟨n2, rfl, rfl, rfl, hw2⟩ := open_int Tryd.underlying3 (hval 2 3 v2 rfl rfl) h2
  have hi2 := i64_wf hw2
  obtain ⟨a3, len3, cap3, rfl⟩ := okWide_slice Tryd.underlying27 (hval 3 27 v3 rfl rfl)
  obtain ⟨m3, rfl, hR3, hl3, hb3⟩ : ∃ m : List (List UInt8), m.length = len3 ∧ Rs W a3 len3 cap3 m ∧ len3 ≤ 9223372036854775807 ∧ ∀ x ∈ m, x.length ≤ 140737488351232 := by
    obtain ⟨fuel, hf⟩ := h3
    rcases open_strings Tryd.underlying27 Tryd.underlying9 c9' hf with ⟨hcs, _⟩ | ⟨x, l, c, zs, hcs, _, hl, hm, hz, hx, hcell, hwz⟩
    · simp [Value.cells] at hcs
      obtain ⟨rfl, rfl, rfl⟩ := hcs
      exact ⟨[], rfl, ⟨by simp, Nat.le_refl _, fun i u hu => by simp at hu⟩, by decide, by simp⟩
    · simp [Value.cells] at hcs
      obtain ⟨rfl, rfl, rfl⟩ := hcs
      have hz' : zs.length = cap3 := by simpa using hz
      obtain rfl : d3 = .slice (strs (zs.take len3)) (strs (zs.drop len3)) := congrArg Prod.fst hx
      exact ⟨_, by simp; omega, rs_in2 hl hz' hcell, by unfold maxLen at hm; omega, reach_strs hbd⟩
  have hG := GH_of_laid2 hL
  clear hA0 hval0
  have walk : Calls Tryd.prog 12 #[.slice a0 m0.length cap0, I n1, I n2, .slice a3 m3.length cap3] W fun e w' => e = .returned (.bool true) ∧ Ext W w' :=
    c12 m0 hz0 n1 n2 hi1 hi2 m3 hl3 hb3 a0 a3 cap0 cap3 W hR0 hR3 hG.1 hG.2
  refine walk.mono fun e W' ⟨he, bel⟩ => ?_
  subst he
  have hpost : Rows.treeRootsSpec.post enc Tryd.prog Tryd.f12 false true false false W #[.slice a0 m0.length cap0, I n1, I n2, .slice a3 m3.length cap3] (.bool true) W' :=
    ⟨_, _, _, [], _, [], hW', trodAll_mk1 (shut_bool Tryd.underlying4 _), (trodAll_cons_mk (Below.trod Tryd.laidOut (by kernel_rfl) (of_decide_eq_true (by kernel_rfl)) k0 bel lt0) (trodAll_cons_mk (Below.trod Tryd.laidOut (by kernel_rfl) (of_decide_eq_true (by kernel_rfl)) k1 bel lt1) (trodAll_cons_mk (Below.trod Tryd.laidOut (by kernel_rfl) (of_decide_eq_true (by kernel_rfl)) k2 bel lt2) (trodAll_cons_mk (Below.trod Tryd.laidOut (by kernel_rfl) (of_decide_eq_true (by kernel_rfl)) k3 bel lt3) trodAll_mk0)))), rfl, bel.frame _, fun h => by cases h⟩
  exact ⟨_, rfl, hpost⟩

theorem treeRoots_closed : joinedFacts Tryd.prog 12 Tryd.f12 (OpenSpec.ofChange Rows.treeRootsSpec).bare Rows.treeRootsRow = true := by
  unfold joinedFacts
  rw [head_laid, head_maps, head_stops, head_knobs, head_enter, head_final, head_make, head_keys, head_heard]
  kernel_rfl
theorem treeRoots_holds : Rows.TreeRootsSaid :=
  OpenClaim.holds_of_cond 12 Tryd.f12 rfl rfl rfl rfl rfl rfl rfl ⟨rfl, rfl, rfl, rfl, rfl⟩ rfl rfl rfl rfl rfl (by kernel_rfl) Tryd.func12 treeRoots_closed
    (of_decide_eq_true (by kernel_rfl)) (by unfold Func.isWrapper; rw [if_neg (by decide +kernel)]; exact ⟨rfl, rfl⟩)
    (fun os started H enc _ F => by rw [OpenClaim.pre_eq_preRow]; exact treeRoots_lifted os started H enc F)

theorem treeRoots_card : Rows.TreeRootsCardSaid :=
  Claim7.holds_tied_plain_at .later [] [.data, .data] true (true, "265f835b154b156167d8227e0af4b57f9b7264fed4f6156f32e2dd0624db8fd8") false
    treeRoots_holds (fun _ h => by cases h) (by kernel_rfl) (fun _ h => by cases h) treeRoots_row_tie rfl ⟨rfl, rfl⟩ head_main rfl
    (fun f fn hf hfn => by
      obtain rfl : f = 12 := Option.some.inj ((show Tryd.prog.funcNamed "diorama/dioramalaw39.TreeRoots" = some 12 by kernel_rfl).symm.trans hf) |>.symm
      obtain rfl : fn = Tryd.f12 := (Option.some.inj (Tryd.func12.symm.trans hfn)).symm
      exact ⟨by kernel_rfl, fun j t ht => by
        rw [Tryd.params12] at ht
        have hm : t ∈ [45, 3, 3, 27] := by simpa using Array.mem_of_getElem? ht
        have hall : ([45, 3, 3, 27].all fun u => !Tryd.prog.wantsStandIn u) = true := by kernel_rfl
        exact (show Tryd.prog.wantsStandIn t = false by simpa using List.all_eq_true.1 hall t hm)⟩)
    (by kernel_rfl)
end Go.Proofs.YtidfbboalbchiaaDoor
