/- The walks of (hash.Stream).Sum and hash.Sum: the hash of a message. -/
import Derived.Test.YtidfbboalbchiaaDoorA4
namespace Go.Proofs.YtidfbboalbchiaaDoor
open Go Go.RowKit

theorem bytes_set (A R : List UInt8) (x y : UInt8) (n : Nat) (h : n = A.length) : ((A ++ [x] ++ R).map B).toArray.setIfInBounds n (B y) = ((A ++ [y] ++ R).map B).toArray := by
  subst h
  simp
theorem bytes_one (l : List UInt8) : ∀ u ∈ l.map B, u.oneCell' = true := by
  intro u hu
  obtain ⟨x, _, rfl⟩ := List.mem_map.1 hu
  rfl
theorem bytes_oneA (l : List UInt8) : ∀ u ∈ (l.map B).toArray, u.oneCell' = true := fun u hu => bytes_one l u (by simpa using hu)
theorem i_rem (n k : Nat) : ((n : Int)).tmod (k : Int) = ((n % k : Nat) : Int) := by rw [Int.tmod_eq_emod_of_nonneg (by omega)]; simp
theorem i_quo (n k : Nat) : ((n : Int)).tdiv (k : Int) = ((n / k : Nat) : Int) := by rw [Int.tdiv_eq_ediv_of_nonneg (by omega)]; simp
theorem u_shr (n s : Nat) (h : s < 64) : ((n : Int)).fdiv (2 ^ min s IntKind.u64.bits) = ((n / 2 ^ s : Nat) : Int) := by
  rw [bits64, min_lt h, Int.fdiv_eq_ediv_of_nonneg _ (Int.pow_nonneg (by decide))]
  norm_cast
theorem u_b (n : Nat) : IntKind.u8.wrap (n : Int) = ((UInt8.ofNat (n % 256)).toNat : Int) := by
  rw [wrap8u]
  have : (UInt8.ofNat (n % 256)).toNat = n % 256 % 2 ^ 8 := rfl
  omega
theorem len8_take (n i : Nat) (h : i < 8) : (len8 n).take (i + 1) = (len8 n).take i ++ [UInt8.ofNat (n / 2 ^ (56 - 8 * i) % 256)] := by
  rw [List.take_succ_eq_append_getElem (by simp [len8]; exact h)]
  simp [len8]
theorem length_len8 (n : Nat) : (len8 n).length = 8 := by simp [len8]
theorem sc_word (s : S8) (blk : List UInt8) (n i : Nat) (h : i < 8) : (sc s blk n).toArray[0 + 0 + i]? = some (W (s.list.getD i 0)) := by
  have h8 : i < s.list.length := by rw [length_list]; exact h
  simp [sc, List.getElem?_append, h8]
theorem out32_take (s : S8) (i : Nat) (h : i < 32) : (out32 s).take (i + 1) = (out32 s).take i ++ [outB s i] := by
  rw [List.take_succ_eq_append_getElem (by rw [length_out32]; exact h)]
  simp [out32]

set_option maxRecDepth 4000 in
set_option maxHeartbeats 1000000 in
theorem c29 (m : List UInt8) (v : Value) (w0 : World) (hS : IsS m v) (hG : GH w0) (hlen0 : m.length ≤ 1152921504606846976) :
    Calls Tryd.prog 29 #[v] w0 fun e w' => e = .returned (.agg ((sha m).map B).toArray) ∧ Ext w0 w' := by
  obtain ⟨blk, hblk, rfl⟩ := hS
  have hl := hblk.1
  refine start 58 Tryd.func29 rfl rfl rfl fun a hk => ?_
  refine wp_seq_k fun K1 hK1 => ?_
  refine wp_region_lit ?_
  refine la hk rfl (a_box hk rfl rfl fun a w b1 hk G1 => ?_)
  refine la hk rfl (a_alloc hk rfl zr24 fun a w b2 hk G2 => ?_)
  have hB : Below w0.heap.size w0 w := ext_trans G1.ext G2.ext
  have h1 : w.heap[b1]? = some (.cells (sc (state m) blk m.length).toArray 34 (0, 0)) := ext_at G2.ext G1.at_
  have h2 := G2.at_
  have hne : b1 ≠ b2 := G2.ne G1.at_
  have hg1 := G1.ge
  have hg2 : w0.heap.size ≤ b2 := Nat.le_trans G1.ext.size G2.ge
  obtain ⟨C, hC⟩ : ∃ C, C = w.heap.size := ⟨_, rfl⟩
  have hC1 : b1 < C := by rw [hC]; exact heap_lt h1
  have hC2 : b2 < C := by rw [hC]; exact heap_lt h2
  have hC0 : w0.heap.size ≤ C := by rw [hC]; exact hB.size
  have hCC : C ≤ w.heap.size := Nat.le_of_eq hC
  clear hC G1 G2
  refine lnil (hK1 _ _ ?_)
  refine wp_seq_k fun K2 hK2 => ?_
  refine wp_region_lit ?_
  refine ls hk rfl rfl rfl (e_field (off := 72) hk rfl Tryd.underlying34 rfl rfl nz32 _) fun a hk => ?_
  refine ls hk rfl rfl rfl (r_load hk rfl Tryd.underlying32 rfl h1 (sc_n _ _ _ hl)) fun a hk => ?_
  refine ls hk rfl rfl rfl (e_mul (q := ((8 * m.length : Nat) : Int)) hk rfl rfl (by rw [u64 (by omega) (by omega)]; omega) _) fun a hk => ?_
  refine ls hk rfl rfl rfl (e_assign hk rfl _) fun a hk => ?_
  refine lnil (hK2 _ _ ?_)
  refine wp_seq_k fun K3 hK3 => ?_
  refine wp_region_lit ?_
  refine la hk rfl (a_lit (cells := #[B 128]) (zv := .int .u8 0) (sz := 1) (by_ := 1) hk rfl rfl Tryd.underlying22 el5 (by decide) (by decide) (lit1 _ _ rfl) rfl fun a w bl hk GL => ?_)
  have hown := own_mono (lit_own (n := 1) (sz := 1) GL rfl (by decide)) hCC
  have hB := ext_trans hB GL.ext
  have h1 := ext_at GL.ext h1
  have h2 := ext_at GL.ext h2
  have hCC := Nat.le_trans hCC GL.ext.size
  clear GL
  refine ls hk rfl rfl rfl (e_assign hk rfl _) fun a hk => ?_
  refine lnil (hK3 _ _ ?_)
  refine wp_seq_k fun K4 hK4 => ?_
  refine wp_block ?_
  refine loopN (fun n a w => ∃ (z : Nat) (ad : Option Addr) (c : Nat), n = zeros m.length - z ∧ z ≤ zeros m.length ∧ Kn a 58 [(1, .pointer (some ⟨b1, 0, none⟩)), (2, .pointer (some ⟨b2, 0, none⟩)), (3, .int .u64 ((8 * m.length : Nat) : Int)), (4, .slice ad (1 + z) c)] ∧ Below w0.heap.size w0 w ∧ C ≤ w.heap.size ∧ w.heap[b1]? = some (.cells (sc (state m) blk m.length).toArray 34 (0, 0)) ∧ w.heap[b2]? = some (.cells (Value.agg (List.replicate 32 (Value.int .u8 0)).toArray).cells 24 (0, 0)) ∧ w.ownsRow C 5 1 (.slice ad (1 + z) c) (1 + z) ((128 :: List.replicate z 0).map B)) (zeros m.length) ?_ fun n a w hI => ?_
  · exact ⟨0, _, _, rfl, Nat.zero_le _, hk.sub _ ⟨rfl, rfl, rfl, rfl, trivial⟩, hB, hCC, h1, h2, hown⟩
  clear hB h1 h2 hown hCC
  obtain ⟨z, ad, c, rfl, hz, hk, hB, hCC, h1, h2, hown⟩ := hI
  have hz64 : zeros m.length < 64 := Nat.mod_lt _ (by decide)
  refine wp_seq_k fun K5 hK5 => ?_
  refine wp_seq_k fun K6 hK6 => ?_
  refine wp_region_lit ?_
  refine ls hk rfl rfl rfl (e_field (off := 72) hk rfl Tryd.underlying34 rfl rfl nz32 _) fun a hk => ?_
  refine ls hk rfl rfl rfl (r_load hk rfl Tryd.underlying32 rfl h1 (sc_n _ _ _ hl)) fun a hk => ?_
  refine ls hk rfl rfl rfl (e_conv hk rfl Tryd.underlying32 Tryd.underlying3 (i64 (by omega) (by omega)) _) fun a hk => ?_
  refine ls hk rfl rfl rfl (e_move hk rfl _) fun a hk => ?_
  refine ls hk rfl rfl rfl (e_lenS hk rfl Tryd.underlying22 _) fun a hk => ?_
  refine ls hk rfl rfl rfl (e_add (q := ((m.length + (1 + z) : Nat) : Int)) hk rfl rfl (by rw [i64 (by omega) (by omega)]; omega) _) fun a hk => ?_
  refine ls hk rfl rfl rfl (e_rem (q := (((m.length + (1 + z)) % 64 : Nat) : Int)) hk rfl rfl (by decide) (i_rem _ 64) _) fun a hk => ?_
  refine ls hk rfl rfl rfl (e_neq hk rfl rfl rfl _) fun a hk => ?_
  refine lnil (hK6 _ _ ?_)
  refine cdB hk rfl (fun hb => ?_) (fun hb => ?_)
  · have hzl : z < zeros m.length := by
      have h := of_decide_eq_false (by simpa using hb : decide ((((m.length + (1 + z)) % 64 : Nat) : Int) = 56) = false)
      unfold zeros at hz ⊢
      omega
    refine wp_skip (hK5 _ _ ?_)
    refine wp_block ?_
    refine wp_region_lit ?_
    refine ls hk rfl rfl rfl (e_move hk rfl _) fun a hk => ?_
    refine la hk rfl (a_lit (cells := #[B 0]) (zv := .int .u8 0) (sz := 1) (by_ := 1) hk rfl rfl Tryd.underlying22 el5 (by decide) (by decide) (lit1 _ _ rfl) rfl fun a w bl hk GL => ?_)
    have hB := ext_trans hB GL.ext
    have h1 := ext_at GL.ext h1
    have h2 := ext_at GL.ext h2
    have hown := own_ext hown GL.ext
    have hRd : Rd w (some ⟨bl, 0, none⟩) 1 1 1 ([(0 : UInt8)].map B) := Rd.of_block GL.at_ rfl (Nat.le_refl _) (fun i hi => by simp at hi; subst hi; rfl)
    have hCC := Nat.le_trans hCC GL.ext.size
    clear GL
    refine la hk rfl (a_app hk rfl rfl hown rfl hRd (bytes_one _) Tryd.underlying22 el5 rfl (by decide) (by omega) (by omega) hCC fun a w v hk hown' hKp => ?_)
    have hB := kept_below hKp hB hown hC0 (Nat.le_trans hC0 hCC)
    have h1 := kept_lt hKp hown hC1 h1
    have h2 := kept_lt hKp hown hC2 h2
    have hCC := Nat.le_trans hCC hKp.size
    clear hown hKp hRd
    obtain ⟨ad, c, rfl, _, _⟩ := Rd.of_own hown'
    have hown : w.ownsRow C 5 1 (.slice ad (1 + (z + 1)) c) (1 + (z + 1)) ((128 :: List.replicate (z + 1) 0).map B) := by
      have e : (128 :: List.replicate z (0 : UInt8)).map B ++ [(0 : UInt8)].map B = (128 :: List.replicate (z + 1) 0).map B := by
        rw [← List.map_append, List.cons_append, List.replicate_succ']
      rw [← e]; exact hown'
    clear hown'
    refine ls hk rfl rfl rfl (e_assign hk rfl _) fun a hk => ?_
    refine lnil (show ∃ m : Nat, m < _ ∧ _ from ⟨zeros m.length - (z + 1), by omega, z + 1, ad, c, rfl, by omega, hk.sub _ ⟨rfl, rfl, rfl, rfl, trivial⟩, hB, hCC, h1, h2, hown⟩)
  · have hzl : z = zeros m.length := by
      have h := of_decide_eq_true (by simpa using hb : decide ((((m.length + (1 + z)) % 64 : Nat) : Int) = 56) = true)
      unfold zeros at hz ⊢
      omega
    subst hzl
    refine wp_exit (hK4 _ _ ?_)
    refine wp_seq_k fun K7 hK7 => ?_
    refine wp_seq_k fun K8 hK8 => ?_
    refine wp_region_lit ?_
    refine ls hk rfl rfl rfl (e_move hk rfl _) fun a hk => ?_
    refine lnil (hK8 _ _ ?_)
    refine wp_block ?_
    refine loopN (fun n a w => ∃ (i : Nat) (ad : Option Addr) (c : Nat), n = 8 - i ∧ i ≤ 8 ∧ Kn a 58 [(1, .pointer (some ⟨b1, 0, none⟩)), (2, .pointer (some ⟨b2, 0, none⟩)), (3, .int .u64 ((8 * m.length : Nat) : Int)), (4, .slice ad (1 + zeros m.length + i) c), (23, I i)] ∧ Below w0.heap.size w0 w ∧ C ≤ w.heap.size ∧ w.heap[b1]? = some (.cells (sc (state m) blk m.length).toArray 34 (0, 0)) ∧ w.heap[b2]? = some (.cells (Value.agg (List.replicate 32 (Value.int .u8 0)).toArray).cells 24 (0, 0)) ∧ w.ownsRow C 5 1 (.slice ad (1 + zeros m.length + i) c) (1 + zeros m.length + i) ((128 :: List.replicate (zeros m.length) 0 ++ (len8 (8 * m.length)).take i).map B)) (8) ?_ fun n a w hI => ?_
    · exact ⟨0, _, _, rfl, by omega, hk.sub _ ⟨rfl, rfl, rfl, rfl, rfl, trivial⟩, hB, hCC, h1, h2, by simpa using hown⟩
    clear hB h1 h2 hown hCC
    obtain ⟨i, ad, c, rfl, hi, hk, hB, hCC, h1, h2, hown⟩ := hI
    refine wp_seq_k fun K9 hK9 => ?_
    refine wp_region_lit ?_
    refine ls hk rfl rfl rfl (e_lss hk rfl rfl rfl _) fun a hk => ?_
    refine lnil (hK9 _ _ ?_)
    refine wp_seq_k fun K10 hK10 => ?_
    refine cdB hk rfl (fun hb => ?_) (fun hb => ?_)
    · have hi8 : i < 8 := by have := of_decide_eq_true hb; omega
      refine wp_skip (hK10 _ _ ?_)
      refine wp_seq_k fun K11 hK11 => ?_
      refine wp_block ?_
      refine wp_seq_k fun K12 hK12 => ?_
      refine wp_region_lit ?_
      refine ls hk rfl rfl rfl (e_move hk rfl _) fun a hk => ?_
      refine ls hk rfl rfl rfl (e_assign hk rfl _) fun a hk => ?_
      refine lnil (hK12 _ _ ?_)
      refine wp_region_lit ?_
      refine ls hk rfl rfl rfl (e_move hk rfl _) fun a hk => ?_
      refine ls hk rfl rfl rfl (e_move hk rfl _) fun a hk => ?_
      refine ls hk rfl rfl rfl (e_move hk rfl _) fun a hk => ?_
      refine ls hk rfl rfl rfl (e_mul hk rfl rfl (i64 (by omega) (by omega)) _) fun a hk => ?_
      refine ls hk rfl rfl rfl (e_sub (q := ((56 - 8 * i : Nat) : Int)) hk rfl rfl (by rw [i64 (by omega) (by omega)]; omega) _) fun a hk => ?_
      refine ls hk rfl rfl rfl (e_shr hk rfl rfl (by omega) (u_shr _ (56 - 8 * i) (by omega)) _) fun a hk => ?_
      refine ls hk rfl rfl rfl (e_conv hk rfl Tryd.underlying32 Tryd.underlying5 (u_b _) _) fun a hk => ?_
      refine la hk rfl (a_lit (cells := #[B (UInt8.ofNat (8 * m.length / 2 ^ (56 - 8 * i) % 256))]) (zv := .int .u8 0) (sz := 1) (by_ := 1) hk rfl rfl Tryd.underlying22 el5 (by decide) (by decide) (lit1 _ _ rfl) rfl fun a w bl hk GL => ?_)
      have hB := ext_trans hB GL.ext
      have h1 := ext_at GL.ext h1
      have h2 := ext_at GL.ext h2
      have hown := own_ext hown GL.ext
      have hRd : Rd w (some ⟨bl, 0, none⟩) 1 1 1 ([UInt8.ofNat (8 * m.length / 2 ^ (56 - 8 * i) % 256)].map B) := Rd.of_block GL.at_ rfl (Nat.le_refl _) (fun i hi => by simp at hi; subst hi; rfl)
      have hCC := Nat.le_trans hCC GL.ext.size
      clear GL
      refine la hk rfl (a_app hk rfl rfl hown rfl hRd (bytes_one _) Tryd.underlying22 el5 rfl (by decide) (by omega) (by omega) hCC fun a w v hk hown' hKp => ?_)
      have hB := kept_below hKp hB hown hC0 (Nat.le_trans hC0 hCC)
      have h1 := kept_lt hKp hown hC1 h1
      have h2 := kept_lt hKp hown hC2 h2
      have hCC := Nat.le_trans hCC hKp.size
      clear hown hKp hRd
      obtain ⟨ad, c, rfl, _, _⟩ := Rd.of_own hown'
      have hown : w.ownsRow C 5 1 (.slice ad (1 + zeros m.length + (i + 1)) c) (1 + zeros m.length + (i + 1)) ((128 :: List.replicate (zeros m.length) 0 ++ (len8 (8 * m.length)).take (i + 1)).map B) := by
        rw [len8_take _ _ hi8, ← List.append_assoc, List.map_append]; exact hown'
      clear hown'
      refine ls hk rfl rfl rfl (e_assign hk rfl _) fun a hk => ?_
      refine lnil (hK11 _ _ ?_)
      refine wp_region_lit ?_
      refine ls hk rfl rfl rfl (e_add hk rfl rfl (i64 (by omega) (by omega)) _) fun a hk => ?_
      refine ls hk rfl rfl rfl (e_move hk rfl _) fun a hk => ?_
      refine lnil (show ∃ m : Nat, m < _ ∧ _ from ⟨8 - (i + 1), by omega, i + 1, ad, c, rfl, by omega, hk.sub _ ⟨rfl, rfl, rfl, rfl, rfl, trivial⟩, hB, hCC, h1, h2, hown⟩)
    · have hi8 : i = 8 := by have := of_decide_eq_false hb; omega
      subst hi8
      refine wp_exit (hK7 _ _ ?_)
      refine wp_seq_k fun K13 hK13 => ?_
      have hp : 128 :: List.replicate (zeros m.length) 0 ++ (len8 (8 * m.length)).take 8 = padding m.length := by
        rw [List.take_of_length_le (by rw [length_len8]; omega)]; rfl
      rw [hp] at hown
      have hpl : (padding m.length).length = 1 + zeros m.length + 8 := by simp [padding, length_len8]; omega
      obtain ⟨ad', c', e', _, hRd⟩ := Rd.of_own hown
      cases e'
      refine wp_region_lit ?_
      refine ls hk rfl rfl rfl (r_loadB hk rfl h1 Tryd.underlying34 rfl (by rw [sz34]; simp [length_sc _ _ _ hl])) fun a hk => ?_
      refine ls hk rfl rfl rfl (e_move hk rfl _) fun a hk => ?_
      refine ls hk rfl rfl rfl (e_str hk rfl hRd Tryd.underlying22 Tryd.underlying5 Tryd.underlying9) fun a hk => ?_
      refine la hk rfl (a_call hk rfl rfl (c_fn hk rfl ok27) (c27 m (padding m.length) _ _ ⟨blk, hblk, rfl⟩ (hG.ext hB) (by omega)) ?_)
      rintro e w ⟨v', rfl, ⟨blk', hblk', rfl⟩, hE⟩
      refine ⟨_, rfl, fun a hk => ?_⟩
      have h1 := ext_at hE h1
      have h2 := ext_at hE h2
      have hB := ext_trans hB hE
      have hl2 := hblk'.1
      clear hown hRd hCC hE
      refine la hk rfl (a_storeB hk rfl rfl (sc_one _ _ _) (by rw [sz34]; simp [length_sc _ _ _ hl2]) h1 (by simp [length_sc _ _ _ hl2, length_sc _ _ _ hl]) fun a w hk W10 => ?_)
      have hB := W10.below hB hg1
      have h2 := W10.keep (Ne.symm hne) h2
      have h1 := W10.at_
      clear W10
      generalize hs : state (m ++ padding m.length) = s at h1
      refine lnil (hK13 _ _ ?_)
      refine wp_seq_k fun K14 hK14 => ?_
      refine wp_region_lit ?_
      refine la hk rfl (a_alloc hk rfl zr24 fun a w b6 hk G6 => ?_)
      have n16 : b1 ≠ b6 := G6.ne h1
      have n26 : b2 ≠ b6 := G6.ne h2
      have hg6 : w0.heap.size ≤ b6 := Nat.le_trans hB.size G6.ge
      have hB := ext_trans hB G6.ext
      have h1 := ext_at G6.ext h1
      have h2 := ext_at G6.ext h2
      have h6 := G6.at_
      clear G6
      refine lnil (hK14 _ _ ?_)
      refine wp_seq_k fun K15 hK15 => ?_
      refine wp_seq_k fun K16 hK16 => ?_
      refine wp_region_lit ?_
      refine ls hk rfl rfl rfl (e_move hk rfl _) fun a hk => ?_
      refine lnil (hK16 _ _ ?_)
      refine wp_block ?_
      refine loopN (fun n a w => ∃ i : Nat, n = 32 - i ∧ i ≤ 32 ∧ Kn a 58 [(1, .pointer (some ⟨b1, 0, none⟩)), (2, .pointer (some ⟨b2, 0, none⟩)), (6, .pointer (some ⟨b6, 0, none⟩)), (40, I i)] ∧ Below w0.heap.size w0 w ∧ w.heap[b1]? = some (.cells (sc s blk' (m ++ padding m.length).length).toArray 34 (0, 0)) ∧ w.heap[b2]? = some (.cells (Value.agg (List.replicate 32 (Value.int .u8 0)).toArray).cells 24 (0, 0)) ∧ w.heap[b6]? = some (.cells (((out32 s).take i ++ List.replicate (32 - i) 0).map B).toArray 24 (0, 0))) (32) ?_ fun n a w hI => ?_
      · exact ⟨0, rfl, by omega, hk.sub _ ⟨rfl, rfl, rfl, rfl, trivial⟩, hB, h1, h2, h6⟩
      clear hB h1 h2 h6
      obtain ⟨i, rfl, hi, hk, hB, h1, h2, h6⟩ := hI
      refine wp_seq_k fun K17 hK17 => ?_
      refine wp_region_lit ?_
      refine ls hk rfl rfl rfl (e_lss hk rfl rfl rfl _) fun a hk => ?_
      refine lnil (hK17 _ _ ?_)
      refine wp_seq_k fun K18 hK18 => ?_
      refine cdB hk rfl (fun hb => ?_) (fun hb => ?_)
      · have hi32 : i < 32 := by have := of_decide_eq_true hb; omega
        refine wp_skip (hK18 _ _ ?_)
        refine wp_seq_k fun K19 hK19 => ?_
        refine wp_block ?_
        refine wp_seq_k fun K20 hK20 => ?_
        refine wp_region_lit ?_
        refine ls hk rfl rfl rfl (e_move hk rfl _) fun a hk => ?_
        refine ls hk rfl rfl rfl (e_assign hk rfl _) fun a hk => ?_
        refine lnil (hK20 _ _ ?_)
        refine wp_region_lit ?_
        refine ls hk rfl rfl rfl (e_move hk rfl _) fun a hk => ?_
        refine ls hk rfl rfl rfl (e_move hk rfl _) fun a hk => ?_
        refine ls hk rfl rfl rfl (e_quo (q := ((i / 4 : Nat) : Int)) hk rfl rfl (by decide) (by rw [show ((i : Int)).tdiv 4 = ((i / 4 : Nat) : Int) from i_quo i 4, i64 (by omega) (by omega)]) _) fun a hk => ?_
        refine ls hk rfl rfl rfl (e_field (off := 0) hk rfl Tryd.underlying34 rfl rfl nz30 _) fun a hk => ?_
        refine ls hk rfl rfl rfl (e_idxA1 (i / 4) hk rfl rfl Tryd.underlying30 sz29 rfl (by omega) _) fun a hk => ?_
        refine ls hk rfl rfl rfl (r_load (v := W (s.list.getD (i / 4) 0)) hk rfl Tryd.underlying29 rfl h1 (sc_word _ _ _ _ (by omega))) fun a hk => ?_
        refine ls hk rfl rfl rfl (e_move hk rfl _) fun a hk => ?_
        refine ls hk rfl rfl rfl (e_rem (q := ((i % 4 : Nat) : Int)) hk rfl rfl (by decide) (i_rem i 4) _) fun a hk => ?_
        refine ls hk rfl rfl rfl (e_mul (q := ((8 * (i % 4) : Nat) : Int)) hk rfl rfl (by rw [i64 (by omega) (by omega)]; omega) _) fun a hk => ?_
        refine ls hk rfl rfl rfl (e_sub (q := ((24 - 8 * (i % 4) : Nat) : Int)) hk rfl rfl (by rw [i64 (by omega) (by omega)]; omega) _) fun a hk => ?_
        refine ls hk rfl rfl rfl (e_shr hk rfl rfl (by omega) (w_shr _ (24 - 8 * (i % 4)) (by omega)) _) fun a hk => ?_
        refine ls hk rfl rfl rfl (e_conv hk rfl Tryd.underlying29 Tryd.underlying5 (w_b _) _) fun a hk => ?_
        refine ls hk rfl rfl rfl (e_idxA1 i hk rfl rfl Tryd.underlying24 sz5 rfl (by omega) _) fun a hk => ?_
        refine la hk rfl (a_store (v := B (outB s i)) hk rfl rfl rfl sz5 h6 (by simp [length_out32]; omega) fun a w hk W15 => ?_)
        have hB := W15.below hB hg6
        have h1 := W15.keep n16 h1
        have h2 := W15.keep n26 h2
        have h6 : w.heap[b6]? = some (.cells (((out32 s).take (i + 1) ++ List.replicate (32 - (i + 1)) 0).map B).toArray 24 (0, 0)) := by
          have h := W15.at_
          rw [show 32 - i = (31 - i) + 1 by omega, List.replicate_succ, show (out32 s).take i ++ 0 :: List.replicate (31 - i) 0 = (out32 s).take i ++ [0] ++ List.replicate (31 - i) 0 by simp,
            bytes_set _ _ _ _ _ (by simp [length_out32]; omega)] at h
          rw [h, out32_take _ _ hi32, show 32 - (i + 1) = 31 - i by omega]
        clear W15
        refine lnil (hK19 _ _ ?_)
        refine wp_region_lit ?_
        refine ls hk rfl rfl rfl (e_add hk rfl rfl (i64 (by omega) (by omega)) _) fun a hk => ?_
        refine ls hk rfl rfl rfl (e_move hk rfl _) fun a hk => ?_
        refine lnil (show ∃ m : Nat, m < _ ∧ _ from ⟨32 - (i + 1), by omega, i + 1, rfl, by omega, hk.sub _ ⟨rfl, rfl, rfl, rfl, trivial⟩, hB, h1, h2, h6⟩)
      · have hi32 : i = 32 := by have := of_decide_eq_false hb; omega
        subst hi32
        rw [List.take_of_length_le (by rw [length_out32]; omega), Nat.sub_self, List.replicate_zero, List.append_nil] at h6
        refine wp_exit (hK15 _ _ ?_)
        refine wp_seq_k fun K21 hK21 => ?_
        refine wp_region_lit ?_
        refine ls hk rfl rfl rfl (r_loadB hk rfl h6 Tryd.underlying24 rfl (by rw [sz24]; simp [length_out32])) fun a hk => ?_
        refine la hk rfl (a_storeB hk rfl rfl (bytes_oneA _) (by rw [sz24]; simp [length_out32]) h2 (by simp [length_out32, Value.cells]) fun a w hk W17 => ?_)
        refine lnil (hK21 _ _ ?_)
        refine wp_ret ?_
        refine retA hk rfl rfl W17.at_ Tryd.underlying24 rfl (by rw [sz24]; simp [length_out32]) ⟨?_, W17.below hB hg2⟩
        rw [← hs]
        rfl

theorem c23 (m : List UInt8) (ad : Option Addr) (n c : Nat) (w0 : World) (hR : Rd w0 ad n c 1 (m.map B)) (hG : GH w0) (hlen : m.length ≤ 1152921504606846976) :
    Calls Tryd.prog 23 #[.slice ad n c] w0 fun e w' => e = .returned (.agg ((sha m).map B).toArray) ∧ Ext w0 w' := by
  refine start 8 Tryd.func23 rfl rfl rfl fun a hk => ?_
  refine wp_seq_k fun K1 hK1 => ?_
  refine wp_region_lit ?_
  refine la hk rfl (a_alloc hk rfl zr24 fun a w b2 hk G2 => ?_)
  refine lnil (hK1 _ _ ?_)
  refine wp_seq_k fun K2 hK2 => ?_
  refine wp_region_ok (fun w => Rd w ad n c 1 (m.map B)) [4, 0, 3, 4, 4, 2] mixed ?_
  have hB := G2.ext.drew
  have h2 : w.drew.heap[b2]? = _ := G2.at_
  have hg2 := G2.ge
  have hS : Rd w.drew ad n c 1 (m.map B) := hR.ext hB
  refine da4 0 hk rfl (by kernel_rfl) rfl rfl hS (a_call hk rfl rfl (c_fn (vs := []) hk rfl ok26) (c26 _) ?_)
  rintro e w ⟨v, rfl, hIs, hE⟩
  refine ⟨_, rfl, fun a hk => ⟨hS.ext hE, ?_⟩⟩
  have hS := hS.ext hE
  have h2 := ext_at hE h2
  have hB := ext_trans hB hE
  refine d0 1 hk rfl (by kernel_rfl) rfl rfl rfl rfl (fun _ => e_move hk rfl _) fun a hk => ?_
  refine d3 2 hk rfl (by kernel_rfl) rfl rfl rfl rfl hS (fun w hS => e_str hk rfl hS Tryd.underlying22 Tryd.underlying5 Tryd.underlying9) fun a hk => ?_
  refine da4 3 hk rfl (by kernel_rfl) rfl rfl hS (a_call hk rfl rfl (c_fn hk rfl ok27) (c27 [] m _ _ hIs (hG.ext hB) (by simp; omega)) ?_)
  rintro e w ⟨v, rfl, hIs, hE⟩
  refine ⟨_, rfl, fun a hk => ⟨hS.ext hE, ?_⟩⟩
  have hS := hS.ext hE
  have h2 := ext_at hE h2
  have hB := ext_trans hB hE
  refine da4 4 hk rfl (by kernel_rfl) rfl rfl hS (a_call hk rfl rfl (c_fn hk rfl ok29) (c29 m _ _ hIs (hG.ext hB) hlen) ?_)
  rintro e w ⟨rfl, hE⟩
  refine ⟨_, rfl, fun a hk => ⟨hS.ext hE, ?_⟩⟩
  have h2 := ext_at hE h2
  have hB := ext_trans hB hE
  refine da 5 hk rfl (by kernel_rfl) rfl rfl (a_storeB hk rfl rfl (bytes_oneA _) (by rw [sz24]; simp [length_sha]) h2 (by simp [length_sha, Value.cells]) fun a w hk W5 => ?_)
  refine okFin (by kernel_rfl) (hK2 _ _ ?_)
  refine wp_ret ?_
  exact retA hk rfl rfl W5.at_ Tryd.underlying24 rfl (by rw [sz24]; simp [length_sha]) ⟨rfl, W5.below hB hg2⟩

end Go.Proofs.YtidfbboalbchiaaDoor
