/- The law HashOfSeparates: its row and its tied card. -/
import Derived.Test.YtidfbboalbchiaaDoorUpC
import Derived.Test.YtidfbboalbchiaaDoorA23
import Derived.Test.YtidfbboalbchiaaDoorHead
import Derived.Test.YtidfbboalbchiaaDoorTie
import Derived.Test.YtidfbboalbchiaaDoorCards
import Derived.SevenTiedAt
namespace Go.Proofs.YtidfbboalbchiaaDoor
open Go Go.ChangeShapes Go.WideShapes Go.ChangeAt Go.RowKit
open Go.ChangeMaps (open_string shut_string)

set_option maxRecDepth 100000 in
theorem hashOfSeparates_lifted (os : Os) (started : os.Started) (H : Type) (enc : TypeId × Value → H) :
    ReturnsInHanded {} Tryd.checked os 10 .any (fun w args => (Rows.hashOfSeparatesSpec.pre enc Tryd.prog Tryd.f10 [] false w args ∧ laidMetH Tryd.prog laid1 w) ∧ sizedMet enc Tryd.prog Tryd.f10 (OpenSpec.ofChange Rows.hashOfSeparatesSpec) false w args)
      (Rows.hashOfSeparatesSpec.post enc Tryd.prog Tryd.f10 false true false false) := by
  refine returnsInHanded_of_change_and (C := Tryd.checked) (X := fun w _ => laidMetH Tryd.prog laid1 w) (fun _ _ _ hh h => h.of_heap hh) Tryd.own started (by kernel_rfl) Tryd.func10
    (ChangeSpec.witness_shaped (enc := enc) (C := Tryd.checked) (os := os) (X := fun w _ => laidMetH Tryd.prog laid1 w) false (World.doorLaid Tryd.prog 19 os) #[.agg #[.int .u8 0, .int .u8 0], .slice none 0 0, .slice none 0 0] 8 rfl (World.shaped_of_RefB (by kernel_rfl) (by kernel_rfl)) (by kernel_rfl) (by kernel_rfl) (by kernel_rfl) (door_met1 os _)) ?_
  intro W base args ds gs before hval0 hW _ _ hL _
  have hval : ∀ (j : Nat) t v, Tryd.f10.params[j]? = some t → args[j]? = some v → Value.okWide Tryd.prog W .any base t v := hval0
  have hW' := hW
  obtain ⟨p, q, hA0, hV, rfl, hfz, hnd⟩ := hW
  have hA : DataW.TrodAll enc Tryd.prog W 0 (fun _ => true) true Tryd.f10.params.toList args.toList ds p := hA0
  rw [Tryd.params10] at hA hval
  obtain ⟨v0, vs0, d0, ds0, p0, q0, hargs, rfl, rfl, h0, r0⟩ := trodAll_cons hA
  obtain ⟨v1, vs1, d1, ds1, p1, q1, rfl, rfl, rfl, h1, r1⟩ := trodAll_cons r0
  obtain ⟨v2, vs2, d2, ds2, p2, q2, rfl, rfl, rfl, h2, r2⟩ := trodAll_cons r1
  obtain ⟨rfl, rfl, rfl⟩ := trodAll_nil r2
  obtain rfl : args = #[v0, v1, v2] := by cases args; simp_all
  obtain ⟨rfl, rfl⟩ := trodVars_none hV
  have k0 := h0
  have lt0 : ∀ x ∈ p0, x.block < W.heap.size := by obtain ⟨m, hm⟩ := k0; exact DataW.trod_lt m _ _ _ hm
  have k1 := h1
  have lt1 : ∀ x ∈ p1, x.block < W.heap.size := by obtain ⟨m, hm⟩ := k1; exact DataW.trod_lt m _ _ _ hm
  have k2 := h2
  have lt2 : ∀ x ∈ p2, x.block < W.heap.size := by obtain ⟨m, hm⟩ := k2; exact DataW.trod_lt m _ _ _ hm
  obtain ⟨xs0, rfl⟩ := okWide_array Tryd.underlying60 (hval 0 60 v0 rfl rfl)
  obtain ⟨l0, hxs0, hl0⟩ : ∃ l : List UInt8, (Value.agg xs0) = .agg (l.map B).toArray ∧ l.length = 2 := by
    obtain ⟨fuel, hf⟩ := h0
    obtain ⟨hl, he⟩ := arr_each Tryd.underlying60 Tryd.underlying5 c5' c60' hf
    obtain ⟨l, hq⟩ := u8s_of _ he
    rw [hq, List.length_map] at hl
    refine ⟨l, ?_, hl⟩
    rw [← hq]; simp [Value.cells]
  obtain ⟨a1, len1, cap1, rfl⟩ := okWide_slice Tryd.underlying27 (hval 1 27 v1 rfl rfl)
  obtain ⟨m1, rfl, hR1, hl1⟩ : ∃ m : List (List UInt8), m.length = len1 ∧ Rs W a1 len1 cap1 m ∧ len1 ≤ 9223372036854775807 := by
    obtain ⟨fuel, hf⟩ := h1
    rcases open_strings Tryd.underlying27 Tryd.underlying9 c9' hf with ⟨hcs, _⟩ | ⟨x, l, c, zs, hcs, _, hl, hm, hz, _, hcell, hwz⟩
    · simp [Value.cells] at hcs
      obtain ⟨rfl, rfl, rfl⟩ := hcs
      exact ⟨[], rfl, ⟨by simp, Nat.le_refl _, fun i u hu => by simp at hu⟩, by decide⟩
    · simp [Value.cells] at hcs
      obtain ⟨rfl, rfl, rfl⟩ := hcs
      obtain ⟨q, hq, hr⟩ := rs_in hl (by simpa using hz) hcell
      exact ⟨q, hq, hr, by unfold maxLen at hm; omega⟩
  obtain ⟨a2, len2, cap2, rfl⟩ := okWide_slice Tryd.underlying27 (hval 2 27 v2 rfl rfl)
  obtain ⟨m2, rfl, hR2, hl2⟩ : ∃ m : List (List UInt8), m.length = len2 ∧ Rs W a2 len2 cap2 m ∧ len2 ≤ 9223372036854775807 := by
    obtain ⟨fuel, hf⟩ := h2
    rcases open_strings Tryd.underlying27 Tryd.underlying9 c9' hf with ⟨hcs, _⟩ | ⟨x, l, c, zs, hcs, _, hl, hm, hz, _, hcell, hwz⟩
    · simp [Value.cells] at hcs
      obtain ⟨rfl, rfl, rfl⟩ := hcs
      exact ⟨[], rfl, ⟨by simp, Nat.le_refl _, fun i u hu => by simp at hu⟩, by decide⟩
    · simp [Value.cells] at hcs
      obtain ⟨rfl, rfl, rfl⟩ := hcs
      obtain ⟨q, hq, hr⟩ := rs_in hl (by simpa using hz) hcell
      exact ⟨q, hq, hr, by unfold maxLen at hm; omega⟩
  obtain ⟨x, y, rfl⟩ : ∃ x y, l0 = [x, y] := by
    match l0, hl0 with
    | [x, y], _ => exact ⟨x, y, rfl⟩
  have hG := GH_of_laid1 hL
  clear hA0 hval0
  refine (show Calls Tryd.prog 10 #[.agg xs0, .slice a1 m1.length cap1, .slice a2 m2.length cap2] W (fun e w' => e = .returned (.bool true) ∧ Ext W w') by rw [hxs0]; exact c10 x y m1 m2 a1 a2 cap1 cap2 W hR1 hl1 hR2 hl2 hG).mono fun e W' ⟨he, bel⟩ => ?_
  subst he
  exact ⟨_, rfl, _, _, _, [], _, [], hW', trodAll_mk1 (shut_bool Tryd.underlying4 _), (trodAll_cons_mk (Below.trod Tryd.laidOut (by kernel_rfl) (of_decide_eq_true (by kernel_rfl)) k0 bel lt0) (trodAll_cons_mk (Below.trod Tryd.laidOut (by kernel_rfl) (of_decide_eq_true (by kernel_rfl)) k1 bel lt1) (trodAll_cons_mk (Below.trod Tryd.laidOut (by kernel_rfl) (of_decide_eq_true (by kernel_rfl)) k2 bel lt2) trodAll_mk0))), rfl, bel.frame _, fun h => by cases h⟩

theorem hashOfSeparates_closed : joinedFacts Tryd.prog 10 Tryd.f10 Rows.hashOfSeparatesSpec Rows.hashOfSeparatesRow = true := by
  unfold joinedFacts
  rw [head_laid, head_maps, head_stops, head_knobs, head_enter, head_final, head_make, head_keys, head_heard]
  kernel_rfl
theorem hashOfSeparates_holds : Rows.HashOfSeparatesSaid :=
  OpenClaim.holds_of_wide 10 Tryd.f10 rfl rfl rfl rfl rfl rfl rfl ⟨rfl, rfl, rfl, rfl, rfl⟩ rfl rfl rfl rfl rfl (by kernel_rfl) Tryd.func10 hashOfSeparates_closed
    (of_decide_eq_true (by kernel_rfl)) (by unfold Func.isWrapper; rw [if_neg (by decide +kernel)]; exact ⟨rfl, rfl⟩)
    (fun os started H enc _ => hashOfSeparates_lifted os started H enc)

theorem hashOfSeparates_card : Rows.HashOfSeparatesCardSaid :=
  Claim7.holds_tied_plain_at .later [] [.data] true (true, "265f835b154b156167d8227e0af4b57f9b7264fed4f6156f32e2dd0624db8fd8") false
    hashOfSeparates_holds (fun _ h => by cases h) (by kernel_rfl) (fun _ h => by cases h) hashOfSeparates_row_tie rfl ⟨rfl, rfl⟩ head_main rfl
    (fun f fn hf hfn => by
      obtain rfl : f = 10 := Option.some.inj ((show Tryd.prog.funcNamed "diorama/dioramalaw02.HashOfSeparates" = some 10 by kernel_rfl).symm.trans hf) |>.symm
      obtain rfl : fn = Tryd.f10 := (Option.some.inj (Tryd.func10.symm.trans hfn)).symm
      exact ⟨by kernel_rfl, fun j t ht => by
        rw [Tryd.params10] at ht
        have hm : t ∈ [60, 27, 27] := by simpa using Array.mem_of_getElem? ht
        have hall : ([60, 27, 27].all fun u => !Tryd.prog.wantsStandIn u) = true := by kernel_rfl
        exact (show Tryd.prog.wantsStandIn t = false by simpa using List.all_eq_true.1 hall t hm)⟩)
    (by kernel_rfl)
end Go.Proofs.YtidfbboalbchiaaDoor
