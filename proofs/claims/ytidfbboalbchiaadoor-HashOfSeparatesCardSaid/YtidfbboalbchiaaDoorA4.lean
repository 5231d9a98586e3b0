/- The walks of hash.Begin and (hash.Stream).Add: a stream is continued by a text. -/
import Derived.Test.YtidfbboalbchiaaDoorA3
import Derived.Test.YtidfbboalbchiaaDoorMsg
import Derived.Test.YtidfbboalbchiaaDoorMem2
namespace Go.Proofs.YtidfbboalbchiaaDoor
open Go Go.RowKit

def fields34 : Array Field := #[{ name := "state", type := 30, offset := 0, embedded := false, tag := "", pkgPath := "diorama/hash", byteOffset := 0 }, { name := "block", type := 31, offset := 8, embedded := false, tag := "", pkgPath := "diorama/hash", byteOffset := 32 }, { name := "n", type := 32, offset := 72, embedded := false, tag := "", pkgPath := "diorama/hash", byteOffset := 96 }]
theorem pl34 (w : World) : (fields34.mapM fun (f : Field) => (do pure (f.offset, ← sizeOf f.type) : Sem (Nat × Nat))).run Tryd.prog w = .ok #[(0, 8), (8, 64), (72, 1)] w := by kernel_rfl
/-- A stream's cells. -/
def sc (s : S8) (blk : List UInt8) (n : Nat) : List Value := s.list.map W ++ blk.map B ++ [.int .u64 (n : Int)]
/-- The value of a stream whose message is m. -/
def IsS (m : List UInt8) (v : Value) : Prop := ∃ blk, IsBlk m blk ∧ v = .agg (sc (state m) blk m.length).toArray
theorem length_list (s : S8) : s.list.length = 8 := rfl
theorem length_sc (s : S8) (blk : List UInt8) (n : Nat) (h : blk.length = 64) : (sc s blk n).length = 73 := by simp [sc, h, length_list]
theorem sc_one (s : S8) (blk : List UInt8) (n : Nat) : ∀ u ∈ (sc s blk n).toArray, u.oneCell' = true := by
  intro u hu
  simp [sc] at hu
  rcases hu with ⟨x, _, rfl⟩ | ⟨x, _, rfl⟩ | rfl <;> rfl
theorem sc_n (s : S8) (blk : List UInt8) (n : Nat) (h : blk.length = 64) : (sc s blk n).toArray[0 + 72]? = some (.int .u64 (n : Int)) := by
  simp [sc, length_list, h]
theorem sc_setn (s : S8) (blk : List UInt8) (n n' : Nat) (h : blk.length = 64) : (sc s blk n).toArray.setIfInBounds (0 + 72) (.int .u64 (n' : Int)) = (sc s blk n').toArray := by
  simp [sc, length_list, h]
theorem sc_lay (s : S8) (blk x : List UInt8) (n p k : Nat) (h : blk.length = 64) (hk : k = x.length) (hp : p + k ≤ 64) :
    ((sc s blk n).toArray.toList.take (0 + 8 + p) ++ x.map B ++ (sc s blk n).toArray.toList.drop (0 + 8 + p + k)).toArray = (sc s (lay blk x p) n).toArray := by
  subst hk
  have e1 : (s.list.map W).length = 8 := rfl
  have e3 : blk.length - p - (blk.length - p - x.length) = x.length := by omega
  show ((sc s blk n).take (0 + 8 + p) ++ x.map B ++ (sc s blk n).drop (0 + 8 + p + x.length)).toArray = _
  simp only [sc, lay, List.append_assoc]
  congr 1
  rw [List.take_append, List.drop_append, List.take_of_length_le (by omega), List.drop_of_length_le (by omega), e1]
  rw [show 0 + 8 + p - 8 = p by omega, show 0 + 8 + p + x.length - 8 = p + x.length by omega]
  rw [List.take_append_of_le_length (by simp; omega), List.drop_append_of_le_length (by simp; omega)]
  simp [List.map_take, List.map_drop]
theorem sc_state (s s' : S8) (blk : List UInt8) (n : Nat) : ((sc s blk n).toArray.toList.take (0 + 0) ++ s'.list.map W ++ (sc s blk n).toArray.toList.drop (0 + 0 + (s'.list.map W).length)).toArray = (sc s' blk n).toArray := by
  have e1 : (s.list.map W).length = 8 := rfl
  have e2 : (s'.list.map W).length = 8 := rfl
  show ((sc s blk n).take (0 + 0) ++ s'.list.map W ++ (sc s blk n).drop (0 + 0 + (s'.list.map W).length)).toArray = _
  simp only [sc, e2, List.append_assoc]
  rw [show (0 + 0 + 8) = (s.list.map W).length from rfl, List.drop_left]
  rfl
theorem sc_range (s : S8) (blk : List UInt8) (n : Nat) {w : World} {b : Nat} {t : TypeId} {fr : Nat × Nat} (h : w.heap[b]? = some (.cells (sc s blk n).toArray t fr)) : w.rangeAt b (0 + 0) (s.list.map W) :=
  range_block h fun i hi => by
    have e1 : (s.list.map W).length = 8 := rfl
    simp only [sc, List.getElem?_toArray, List.append_assoc]
    rw [List.getElem?_append_left (by omega)]
    congr 1; omega
theorem sc_blk (s : S8) (blk : List UInt8) (n : Nat) {w : World} {b : Nat} {t : TypeId} {fr : Nat × Nat} (h : w.heap[b]? = some (.cells (sc s blk n).toArray t fr)) (hl : blk.length = 64) : Rd w (some ⟨b, 0 + 8, none⟩) 64 64 1 (blk.map B) :=
  Rd.of_block h (by simp [hl]) (Nat.le_refl _) fun i hi => by
    have e1 : (s.list.map W).length = 8 := rfl
    have hi' : i < 64 := by simpa [hl] using hi
    simp only [sc, List.getElem?_toArray, List.append_assoc]
    rw [List.getElem?_append_right (by omega), e1, List.getElem?_append_left (by simp; omega)]
    congr 1; omega
theorem u_rem (n : Nat) : ((n : Int)).tmod 64 = ((n % 64 : Nat) : Int) := by rw [Int.tmod_eq_emod_of_nonneg (by omega)]; omega

theorem c26 (w0 : World) : Calls Tryd.prog 26 #[] w0 fun e w' => ∃ v, e = .returned v ∧ IsS [] v ∧ Ext w0 w' := by
  refine start (args := []) 3 Tryd.func26 rfl rfl rfl fun a hk => ?_
  refine wp_seq_k fun K1 hK1 => ?_
  refine wp_region_lit ?_
  refine la hk rfl (a_alloc hk rfl zr34 fun a w b0 hk G0 => ?_)
  refine lnil (hK1 _ _ ?_)
  refine wp_seq_k fun K2 hK2 => ?_
  refine wp_region_lit ?_
  refine ls hk rfl rfl rfl (e_buildA (cells := (s8init.list.map W).toArray) hk rfl zr30 Tryd.underlying30 sz29 (by kernel_rfl) _) fun a hk => ?_
  refine ls hk rfl rfl rfl (e_buildS (cells := (sc s8init (List.replicate 64 0) 0).toArray) hk rfl zr34 Tryd.underlying34 pl34 (by kernel_rfl) _) fun a hk => ?_
  refine la hk rfl (a_storeB hk rfl rfl (sc_one _ _ _) (by rw [sz34]; rfl) G0.at_ rfl fun a w hk W1 => ?_)
  refine lnil (hK2 _ _ ?_)
  refine wp_ret ?_
  exact retA hk rfl rfl W1.at_ Tryd.underlying34 rfl (by rw [sz34]; rfl) ⟨_, rfl, ⟨List.replicate 64 0, ⟨rfl, rfl⟩, rfl⟩, W1.below G0.ext G0.ge⟩

set_option maxRecDepth 4000 in
set_option maxHeartbeats 1000000 in
theorem c27 (m t : List UInt8) (v : Value) (w0 : World) (hS : IsS m v) (hG : GH w0) (hlen0 : m.length + t.length ≤ 4611686018427387904) :
    Calls Tryd.prog 27 #[v, Str t] w0 fun e w' => ∃ v', e = .returned v' ∧ IsS (m ++ t) v' ∧ Ext w0 w' := by
  obtain ⟨blk, hblk, rfl⟩ := hS
  refine start 38 Tryd.func27 rfl rfl rfl fun a hk => ?_
  refine wp_seq_k fun K1 hK1 => ?_
  refine wp_region_lit ?_
  refine la hk rfl (a_box hk rfl rfl fun a w b2 hk G2 => ?_)
  refine la hk rfl (a_alloc hk rfl zr34 fun a w b4 hk G4 => ?_)
  have hB : Below w0.heap.size w0 w := ext_trans G2.ext G4.ext
  have h2 : w.heap[b2]? = some (.cells (sc (state m) blk m.length).toArray 34 (0, 0)) := ext_at G4.ext G2.at_
  have h4 := G4.at_
  have hne : b2 ≠ b4 := G4.ne G2.at_
  have hg2 := G2.ge
  have hg4 : w0.heap.size ≤ b4 := Nat.le_trans G2.ext.size G4.ge
  clear G2 G4
  refine lnil (hK1 _ _ ?_)
  refine wp_seq_k fun K2 hK2 => ?_
  refine wp_block ?_
  refine loopN (fun n a w => ∃ (m' r blk : List UInt8), n = r.length ∧ m' ++ r = m ++ t ∧ IsBlk m' blk ∧ Kn a 38 [(1, Str r), (2, .pointer (some ⟨b2, 0, none⟩)), (4, .pointer (some ⟨b4, 0, none⟩))] ∧ Below w0.heap.size w0 w ∧ w.heap[b2]? = some (.cells (sc (state m') blk m'.length).toArray 34 (0, 0)) ∧ (∃ z, w.heap[b4]? = some (.cells z 34 (0, 0)) ∧ z.size = 73)) (t.length) ?_ fun n a w hI => ?_
  · exact ⟨m, t, blk, rfl, rfl, hblk, hk.sub _ ⟨rfl, rfl, rfl, trivial⟩, hB, h2, ⟨_, h4, rfl⟩⟩
  clear hB h2 h4 hblk
  obtain ⟨m', r, blk, rfl, hmr, hblk, hk, hB, h2, ⟨z, h4, hz⟩⟩ := hI
  have hlen : m'.length + r.length = m.length + t.length := by have := congrArg List.length hmr; simpa using this
  have hl := hblk.1
  refine wp_seq_k fun K3 hK3 => ?_
  refine wp_seq_k fun K4 hK4 => ?_
  refine wp_region_lit ?_
  refine ls hk rfl rfl rfl (e_move hk rfl _) fun a hk => ?_
  refine ls hk rfl rfl rfl (e_sneq hk rfl rfl rfl _) fun a hk => ?_
  refine lnil (hK4 _ _ ?_)
  refine cdB hk rfl (fun hb => ?_) (fun hb => ?_)
  · have hr : r ≠ [] := by simpa using hb
    obtain ⟨k, hkd⟩ : ∃ k, k = min r.length (64 - m'.length % 64) := ⟨_, rfl⟩
    have hk1 : k ≤ r.length := by omega
    have hk2 : m'.length % 64 + k ≤ 64 := by omega
    have hk3 : 0 < k := by have := List.length_pos_iff.2 hr; omega
    have hxl : (r.take k).length = k := by simp; omega
    refine wp_skip (hK3 _ _ ?_)
    refine wp_block ?_
    refine wp_seq_k fun K5 hK5 => ?_
    refine wp_region_lit ?_
    refine ls hk rfl rfl rfl (e_field (off := 72) hk rfl Tryd.underlying34 rfl rfl nz32 _) fun a hk => ?_
    refine ls hk rfl rfl rfl (r_load hk rfl Tryd.underlying32 rfl h2 (sc_n _ _ _ hl)) fun a hk => ?_
    refine ls hk rfl rfl rfl (e_rem hk rfl rfl (by decide) (u_rem _) _) fun a hk => ?_
    refine ls hk rfl rfl rfl (e_conv hk rfl Tryd.underlying32 Tryd.underlying3 (i64 (by omega) (by omega)) _) fun a hk => ?_
    refine ls hk rfl rfl rfl (e_assign hk rfl _) fun a hk => ?_
    refine lnil (hK5 _ _ ?_)
    refine wp_seq_k fun K6 hK6 => ?_
    refine wp_region_lit ?_
    refine ls hk rfl rfl rfl (e_field (off := 8) hk rfl Tryd.underlying34 rfl rfl nz31 _) fun a hk => ?_
    refine ls hk rfl rfl rfl (e_move hk rfl _) fun a hk => ?_
    refine ls hk rfl rfl rfl (e_slAfromN (m'.length % 64) hk rfl rfl Tryd.underlying31 sz5 rfl (by omega) _) fun a hk => ?_
    refine ls hk rfl rfl rfl (e_move hk rfl _) fun a hk => ?_
    refine la hk rfl (a_copyStr hk rfl rfl rfl Tryd.underlying22 sz5 h2 (by simp [length_sc _ _ _ hl]; omega) fun a w hk W3 => ?_)
    rw [← hkd] at hk W3
    have hB := W3.below hB hg2
    have h4 := W3.keep (Ne.symm hne) h4
    have h2 := W3.at_
    rw [sc_lay _ _ _ _ _ _ hl hxl.symm hk2] at h2
    have hl' : (lay blk (r.take k) (m'.length % 64)).length = 64 := by rw [length_lay _ _ _ (by omega), hl]
    clear W3
    refine ls hk rfl rfl rfl (e_assign hk rfl _) fun a hk => ?_
    refine lnil (hK6 _ _ ?_)
    refine wp_seq_k fun K7 hK7 => ?_
    refine wp_region_lit ?_
    refine ls hk rfl rfl rfl (e_move hk rfl _) fun a hk => ?_
    refine ls hk rfl rfl rfl (e_move hk rfl _) fun a hk => ?_
    refine ls hk rfl rfl rfl (e_slStrFromN k hk rfl rfl Tryd.underlying9 rfl hk1 _) fun a hk => ?_
    refine ls hk rfl rfl rfl (e_assign hk rfl _) fun a hk => ?_
    refine lnil (hK7 _ _ ?_)
    refine wp_seq_k fun K8 hK8 => ?_
    refine wp_region_lit ?_
    refine ls hk rfl rfl rfl (e_field (off := 72) hk rfl Tryd.underlying34 rfl rfl nz32 _) fun a hk => ?_
    refine ls hk rfl rfl rfl (r_load hk rfl Tryd.underlying32 rfl h2 (sc_n _ _ _ hl')) fun a hk => ?_
    refine ls hk rfl rfl rfl (e_move hk rfl _) fun a hk => ?_
    refine ls hk rfl rfl rfl (e_conv hk rfl Tryd.underlying3 Tryd.underlying32 (u64 (by omega) (by omega)) _) fun a hk => ?_
    refine ls hk rfl rfl rfl (e_add (q := ((m'.length + k : Nat) : Int)) hk rfl rfl (by rw [u64 (by omega) (by omega)]; omega) _) fun a hk => ?_
    refine ls hk rfl rfl rfl (e_field (off := 72) hk rfl Tryd.underlying34 rfl rfl nz32 _) fun a hk => ?_
    refine la hk rfl (a_store hk rfl rfl rfl sz32 h2 (by simp [length_sc _ _ _ hl']) fun a w hk W5 => ?_)
    have hB := W5.below hB hg2
    have h4 := W5.keep (Ne.symm hne) h4
    have h2 := W5.at_
    rw [sc_setn _ _ _ _ hl'] at h2
    clear W5
    refine lnil (hK8 _ _ ?_)
    refine wp_seq_k fun K9 hK9 => ?_
    refine wp_region_lit ?_
    refine ls hk rfl rfl rfl (e_move hk rfl _) fun a hk => ?_
    refine ls hk rfl rfl rfl (e_move hk rfl _) fun a hk => ?_
    refine ls hk rfl rfl rfl (e_add hk rfl rfl (i64 (by omega) (by omega)) _) fun a hk => ?_
    refine ls hk rfl rfl rfl (e_eql hk rfl rfl rfl _) fun a hk => ?_
    refine lnil (hK9 _ _ ?_)
    refine cdB hk rfl (fun hb => ?_) (fun hb => ?_)
    · have h64 : m'.length % 64 + k = 64 := by have := of_decide_eq_true hb; omega
      have hst := step_full hblk (x := r.take k) (by rw [hxl]; exact h64)
      refine wp_region_ok (fun _ => True) [0, 1, 0, 0, 2, 0, 2] mixed ?_
      have hB := hB.drew
      refine d0 0 hk rfl (by kernel_rfl) rfl rfl rfl rfl (fun _ => e_field (off := 0) hk rfl Tryd.underlying34 rfl rfl nz30 _) fun a hk => ?_
      refine d1 1 hk rfl (by kernel_rfl) rfl rfl rfl rfl (r_loadR (xs := (state m').list.map W) hk rfl (sc_range _ _ _ h2) Tryd.underlying30 rfl sz30) fun a hk => ?_
      refine d0 2 hk rfl (by kernel_rfl) rfl rfl rfl rfl (fun _ => e_field (off := 8) hk rfl Tryd.underlying34 rfl rfl nz31 _) fun a hk => ?_
      refine d0 3 hk rfl (by kernel_rfl) rfl rfl rfl rfl (fun _ => e_slA hk rfl Tryd.underlying31 sz5 _) fun a hk => ?_
      refine da 4 hk rfl (by kernel_rfl) rfl rfl (a_call hk rfl rfl (c_fn hk rfl ok70) (c70 (state m') _ b2 (0 + 8) 64 _ hl' (sc_blk _ _ _ h2 hl') (hG.ext hB)) ?_)
      rintro e w ⟨rfl, hE⟩
      refine ⟨_, rfl, fun a hk => ?_⟩
      have h2 := ext_at hE h2
      have h4 := ext_at hE h4
      have hB := ext_trans hB hE
      refine d0 5 hk rfl (by kernel_rfl) rfl rfl rfl rfl (fun _ => e_field (off := 0) hk rfl Tryd.underlying34 rfl rfl nz30 _) fun a hk => ?_
      refine da 6 hk rfl (by kernel_rfl) rfl rfl (a_storeR (xs := (compress (state m') (lay blk (r.take k) (m'.length % 64))).list.map W) hk rfl rfl (fun u hu => words_one _ u (by simpa using hu)) sz30 h2 (by simp [length_sc _ _ _ hl', length_list]) fun a w hk W7 => ?_)
      have hB := W7.below hB hg2
      have h4 := W7.keep (Ne.symm hne) h4
      have h2 := W7.at_
      rw [sc_state, ← hst.1, show m'.length + k = (m' ++ r.take k).length by rw [List.length_append, hxl]] at h2
      clear W7 hE
      refine okFin (by kernel_rfl) (show ∃ m : Nat, m < _ ∧ _ from ⟨(r.drop k).length, by have := List.length_pos_iff.2 hr; simp; omega, m' ++ r.take k, r.drop k, _, rfl, by rw [List.append_assoc, List.take_append_drop]; exact hmr, hst.2, hk.sub _ ⟨rfl, rfl, rfl, trivial⟩, hB, h2, ⟨_, h4, hz⟩⟩)
    · have h64 : m'.length % 64 + k < 64 := by have := of_decide_eq_false hb; omega
      have hst := step_part hblk (x := r.take k) (by rw [hxl]; exact h64)
      rw [← hst.1, show m'.length + k = (m' ++ r.take k).length by rw [List.length_append, hxl]] at h2
      refine wp_skip (show ∃ m : Nat, m < _ ∧ _ from ⟨(r.drop k).length, by have := List.length_pos_iff.2 hr; simp; omega, m' ++ r.take k, r.drop k, _, rfl, by rw [List.append_assoc, List.take_append_drop]; exact hmr, hst.2, hk.sub _ ⟨rfl, rfl, rfl, trivial⟩, hB, h2, ⟨_, h4, hz⟩⟩)
  · have hr : r = [] := by simpa using hb
    subst hr
    rw [List.append_nil] at hmr
    subst hmr
    refine wp_exit (hK2 _ _ ?_)
    refine wp_seq_k fun K10 hK10 => ?_
    refine wp_region_lit ?_
    refine ls hk rfl rfl rfl (r_loadB hk rfl h2 Tryd.underlying34 rfl (by rw [sz34]; simp [length_sc _ _ _ hl])) fun a hk => ?_
    refine la hk rfl (a_storeB hk rfl rfl (sc_one _ _ _) (by rw [sz34]; simp [length_sc _ _ _ hl]) h4 (by rw [hz]; simp [length_sc _ _ _ hl]) fun a w hk W8 => ?_)
    refine lnil (hK10 _ _ ?_)
    refine wp_ret ?_
    exact retA hk rfl rfl W8.at_ Tryd.underlying34 rfl (by rw [sz34]; simp [length_sc _ _ _ hl]) ⟨_, rfl, ⟨blk, hblk, rfl⟩, W8.below hB hg4⟩

end Go.Proofs.YtidfbboalbchiaaDoor
