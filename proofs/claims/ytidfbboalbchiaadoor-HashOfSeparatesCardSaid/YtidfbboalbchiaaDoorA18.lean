/- The walk of the specification's Few: few pieces, each short. -/
import Derived.Test.YtidfbboalbchiaaDoorA17
import Derived.Test.YtidfbboalbchiaaDoorD
namespace Go.Proofs.YtidfbboalbchiaaDoor
open Go Go.RowKit

/-- Few pieces, each short. -/
def few (ps : List (List UInt8)) : Bool := decide (ps.length ≤ 12) && ps.all fun x => decide (x.length ≤ 400)
theorem few_iff (ps : List (List UInt8)) : few ps = true ↔ ps.length ≤ 12 ∧ ∀ x ∈ ps, x.length ≤ 400 := by
  simp [few]

set_option maxRecDepth 4000 in
set_option maxHeartbeats 1000000 in
theorem c25 (ps : List (List UInt8)) (ad : Option Addr) (c : Nat) (w0 : World) (hR : Rs w0 ad ps.length c ps) (hn : ps.length ≤ 9223372036854775807) :
    Calls Tryd.prog 25 #[.slice ad ps.length c] w0 fun e w' => e = .returned (.bool (few ps)) ∧ Ext w0 w' := by
  refine start 19 Tryd.func25 rfl rfl rfl fun a hk => ?_
  refine wp_seq_k fun K1 hK1 => ?_
  refine wp_region_lit ?_
  refine ls hk rfl rfl rfl (e_assign hk rfl _) fun a hk => ?_
  refine lnil (hK1 _ _ ?_)
  refine wp_seq_k fun K2 hK2 => ?_
  refine wp_seq_k fun K3 hK3 => ?_
  refine wp_region_lit ?_
  refine ls hk rfl rfl rfl (e_move hk rfl _) fun a hk => ?_
  refine ls hk rfl rfl rfl (e_lenS hk rfl Tryd.underlying27 _) fun a hk => ?_
  refine ls hk rfl rfl rfl (e_gtr hk rfl rfl rfl _) fun a hk => ?_
  refine lnil (hK3 _ _ ?_)
  refine cdB hk rfl (fun hb => ?_) (fun hb => ?_)
  · have hgt : ¬ ps.length ≤ 12 := by have := of_decide_eq_true hb; omega
    refine wp_seq_k fun K4 hK4 => ?_
    refine wp_region_lit ?_
    refine ls hk rfl rfl rfl (e_assign hk rfl _) fun a hk => ?_
    refine lnil (hK4 _ _ ?_)
    refine wp_ret ?_
    simp only [then_ret]
    exact ret1 hk rfl rfl ⟨by simp [few, hgt], Below.refl _ _⟩
  · have hle : ps.length ≤ 12 := by have := of_decide_eq_false hb; omega
    refine wp_skip (hK2 _ _ ?_)
    refine wp_seq_k fun K5 hK5 => ?_
    refine wp_seq_k fun K6 hK6 => ?_
    refine wp_region_lit ?_
    refine ls hk rfl rfl rfl (e_assign hk rfl _) fun a hk => ?_
    refine lnil (hK6 _ _ ?_)
    refine wp_block ?_
    refine loopN (fun n a w => ∃ j : Nat, n = ps.length - j ∧ j ≤ ps.length ∧ (∀ x ∈ ps.take j, x.length ≤ 400) ∧ Kn a 19 [(0, .slice ad ps.length c), (3, I j)] ∧ Ext w0 w) (ps.length) ?_ fun n a w hI => ?_
    · exact ⟨0, rfl, Nat.zero_le _, by simp, hk.sub _ ⟨rfl, rfl, trivial⟩, Below.refl _ _⟩
    obtain ⟨j, rfl, hj, hall, hk, hB⟩ := hI
    refine wp_seq_k fun K7 hK7 => ?_
    refine wp_seq_k fun K8 hK8 => ?_
    refine wp_region_lit ?_
    refine ls hk rfl rfl rfl (e_move hk rfl _) fun a hk => ?_
    refine ls hk rfl rfl rfl (e_move hk rfl _) fun a hk => ?_
    refine ls hk rfl rfl rfl (e_lenS hk rfl Tryd.underlying27 _) fun a hk => ?_
    refine ls hk rfl rfl rfl (e_lss hk rfl rfl rfl _) fun a hk => ?_
    refine lnil (hK8 _ _ ?_)
    refine cdB hk rfl (fun hb => ?_) (fun hb => ?_)
    · have hjl : j < ps.length := by have := of_decide_eq_true hb; omega
      obtain ⟨x, hx⟩ : ∃ x, ps[j]? = some x := ⟨_, List.getElem?_eq_getElem hjl⟩
      obtain ⟨bp, op, rfl, hcell⟩ := Rs.get (Rd.below hR hB (Nat.le_refl _)) j x hx
      refine wp_skip (hK7 _ _ ?_)
      refine wp_seq_k fun K9 hK9 => ?_
      refine wp_block ?_
      refine wp_seq_k fun K10 hK10 => ?_
      refine wp_region_lit ?_
      refine ls hk rfl rfl rfl (e_move hk rfl _) fun a hk => ?_
      refine ls hk rfl rfl rfl (e_move hk rfl _) fun a hk => ?_
      refine ls hk rfl rfl rfl (e_idxS1 j hk rfl rfl Tryd.underlying27 sz9 rfl hjl _) fun a hk => ?_
      refine ls hk rfl rfl rfl (r_load1 (v := Str x) hk rfl Tryd.underlying9 rfl hcell) fun a hk => ?_
      refine ls hk rfl rfl rfl (e_lenStr hk rfl Tryd.underlying9 _) fun a hk => ?_
      refine ls hk rfl rfl rfl (e_gtr hk rfl rfl rfl _) fun a hk => ?_
      refine lnil (hK10 _ _ ?_)
      refine cdB hk rfl (fun hb => ?_) (fun hb => ?_)
      · have hbig : 400 < x.length := by have := of_decide_eq_true hb; omega
        refine wp_seq_k fun K11 hK11 => ?_
        refine wp_region_lit ?_
        refine ls hk rfl rfl rfl (e_assign hk rfl _) fun a hk => ?_
        refine lnil (hK11 _ _ ?_)
        refine wp_ret ?_
        simp only [then_ret, blk_ret]
        exact ret1 hk rfl rfl ⟨by rw [show few ps = false from Bool.eq_false_iff.2 fun h => by have := ((few_iff ps).1 h).2 x (List.mem_of_getElem? hx); omega], hB⟩
      · have hsm : x.length ≤ 400 := by have := of_decide_eq_false hb; omega
        have hall2 : ∀ y ∈ ps.take (j + 1), y.length ≤ 400 := by
          intro y hy
          rw [List.take_add_one, hx] at hy
          rcases List.mem_append.1 hy with h | h
          · exact hall y h
          · obtain rfl : y = x := by simpa using h
            exact hsm
        refine wp_skip (hK9 _ _ ?_)
        refine wp_region_lit ?_
        refine ls hk rfl rfl rfl (e_move hk rfl _) fun a hk => ?_
        refine ls hk rfl rfl rfl (e_add hk rfl rfl (i64 (by omega) (by omega)) _) fun a hk => ?_
        refine ls hk rfl rfl rfl (e_assign hk rfl _) fun a hk => ?_
        refine lnil (show ∃ m : Nat, m < _ ∧ _ from ⟨ps.length - (j + 1), by omega, j + 1, rfl, by omega, hall2, hk.sub _ ⟨rfl, rfl, trivial⟩, hB⟩)
    · have hjl : j = ps.length := by have := of_decide_eq_false hb; omega
      subst hjl
      rw [List.take_length] at hall
      refine wp_exit (hK5 _ _ ?_)
      refine wp_seq_k fun K12 hK12 => ?_
      refine wp_region_lit ?_
      refine ls hk rfl rfl rfl (e_assign hk rfl _) fun a hk => ?_
      refine lnil (hK12 _ _ ?_)
      refine wp_ret ?_
      exact ret1 hk rfl rfl ⟨by rw [(few_iff ps).2 ⟨hle, hall⟩], hB⟩

theorem join_take (ps : List (List UInt8)) (j : Nat) (x : List UInt8) (h : ps[j]? = some x) : (ps.take (j + 1)).flatten = (ps.take j).flatten ++ x := by
  rw [List.take_add_one, h]
  simp only [Option.toList_some, List.flatten_append, List.flatten_cons, List.flatten_nil, List.append_nil]
theorem join_len (k : Nat) : ∀ (ps : List (List UInt8)), (∀ x ∈ ps, x.length ≤ k) → ps.flatten.length ≤ ps.length * k := by
  intro ps
  induction ps with
  | nil => intro _; simp
  | cons x r ih =>
    intro h
    have h1 := ih fun y hy => h y (List.mem_cons_of_mem _ hy)
    have h2 := h x (List.mem_cons_self ..)
    simp only [List.flatten_cons, List.length_append, List.length_cons]
    rw [Nat.succ_mul]; omega

set_option maxRecDepth 4000 in
set_option maxHeartbeats 1000000 in
theorem c28 (ps : List (List UInt8)) (ad : Option Addr) (c : Nat) (w0 : World) (hR : Rs w0 ad ps.length c ps) (hn : ps.length ≤ 1000000) (hlen : ∀ x ∈ ps, x.length ≤ 1000000) :
    Calls Tryd.prog 28 #[.slice ad ps.length c] w0 fun e w' => e = .returned (Str ps.flatten) ∧ Ext w0 w' := by
  refine start 18 Tryd.func28 rfl rfl rfl fun a hk => ?_
  refine wp_seq_k fun K1 hK1 => ?_
  refine wp_region_lit ?_
  refine ls hk rfl rfl rfl (e_assign hk rfl _) fun a hk => ?_
  refine lnil (hK1 _ _ ?_)
  refine wp_seq_k fun K2 hK2 => ?_
  refine wp_region_lit ?_
  refine ls hk rfl rfl rfl (e_assign hk rfl _) fun a hk => ?_
  refine lnil (hK2 _ _ ?_)
  refine wp_seq_k fun K3 hK3 => ?_
  refine wp_seq_k fun K4 hK4 => ?_
  refine wp_region_lit ?_
  refine ls hk rfl rfl rfl (e_assign hk rfl _) fun a hk => ?_
  refine lnil (hK4 _ _ ?_)
  refine wp_block ?_
  refine loopN (fun n a w => ∃ j : Nat, n = ps.length - j ∧ j ≤ ps.length ∧ Kn a 18 [(0, .slice ad ps.length c), (3, Str (ps.take j).flatten), (4, I j)] ∧ Ext w0 w) (ps.length) ?_ fun n a w hI => ?_
  · exact ⟨0, rfl, Nat.zero_le _, hk.sub _ ⟨rfl, rfl, rfl, trivial⟩, Below.refl _ _⟩
  obtain ⟨j, rfl, hj, hk, hB⟩ := hI
  refine wp_seq_k fun K5 hK5 => ?_
  refine wp_seq_k fun K6 hK6 => ?_
  refine wp_region_lit ?_
  refine ls hk rfl rfl rfl (e_move hk rfl _) fun a hk => ?_
  refine ls hk rfl rfl rfl (e_move hk rfl _) fun a hk => ?_
  refine ls hk rfl rfl rfl (e_lenS hk rfl Tryd.underlying27 _) fun a hk => ?_
  refine ls hk rfl rfl rfl (e_lss hk rfl rfl rfl _) fun a hk => ?_
  refine lnil (hK6 _ _ ?_)
  refine cdB hk rfl (fun hb => ?_) (fun hb => ?_)
  · have hjl : j < ps.length := by have := of_decide_eq_true hb; omega
    obtain ⟨x, hx⟩ : ∃ x, ps[j]? = some x := ⟨_, List.getElem?_eq_getElem hjl⟩
    obtain ⟨bp, op, rfl, hcell⟩ := Rs.get (Rd.below hR hB (Nat.le_refl _)) j x hx
    have hxl := hlen x (List.mem_of_getElem? hx)
    have hfl := join_len 1000000 (ps.take j) fun y hy => hlen y (List.mem_of_mem_take hy)
    have htl : (ps.take j).length ≤ 1000000 := by simp; omega
    refine wp_skip (hK5 _ _ ?_)
    refine wp_seq_k fun K7 hK7 => ?_
    refine wp_block ?_
    refine wp_region_lit ?_
    refine ls hk rfl rfl rfl (e_move hk rfl _) fun a hk => ?_
    refine ls hk rfl rfl rfl (e_move hk rfl _) fun a hk => ?_
    refine ls hk rfl rfl rfl (e_move hk rfl _) fun a hk => ?_
    refine ls hk rfl rfl rfl (e_idxS1 j hk rfl rfl Tryd.underlying27 sz9 rfl hjl _) fun a hk => ?_
    refine ls hk rfl rfl rfl (r_load1 (v := Str x) hk rfl Tryd.underlying9 rfl hcell) fun a hk => ?_
    refine ls hk rfl rfl rfl (e_sadd (s := (ps.take j).flatten) (u := x) hk rfl rfl (by omega) _) fun a hk => ?_
    refine ls hk rfl rfl rfl (e_assign hk rfl _) fun a hk => ?_
    refine lnil (hK7 _ _ ?_)
    refine wp_region_lit ?_
    refine ls hk rfl rfl rfl (e_move hk rfl _) fun a hk => ?_
    refine ls hk rfl rfl rfl (e_add hk rfl rfl (i64 (by omega) (by omega)) _) fun a hk => ?_
    refine ls hk rfl rfl rfl (e_assign hk rfl _) fun a hk => ?_
    refine lnil (show ∃ m : Nat, m < _ ∧ _ from ⟨ps.length - (j + 1), by omega, j + 1, rfl, by omega, hk.sub _ ⟨rfl, by rw [join_take ps j x hx]; rfl, rfl, trivial⟩, hB⟩)
  · have hjl : j = ps.length := by have := of_decide_eq_false hb; omega
    subst hjl
    refine wp_exit (hK3 _ _ ?_)
    refine wp_seq_k fun K8 hK8 => ?_
    refine wp_region_lit ?_
    refine ls hk rfl rfl rfl (e_move hk rfl _) fun a hk => ?_
    refine ls hk rfl rfl rfl (e_assign hk rfl _) fun a hk => ?_
    refine lnil (hK8 _ _ ?_)
    refine wp_ret ?_
    exact ret1 hk rfl rfl ⟨by rw [List.take_length], hB⟩

end Go.Proofs.YtidfbboalbchiaaDoor
