/- The encodings are read in one way only; the walk of the law that digests separate. -/
import Derived.Test.YtidfbboalbchiaaDoorA22
namespace Go.Proofs.YtidfbboalbchiaaDoor
open Go Go.RowKit

/-- The number that some bytes are. -/
def val (l : List UInt8) : Nat := l.foldl (fun acc x => acc * 256 + x.toNat) 0
theorem val_append (l : List UInt8) (x : UInt8) : val (l ++ [x]) = val l * 256 + x.toNat := by simp [val]
theorem val_digits : ∀ (k m : Nat), val ((List.range k).map fun i => UInt8.ofNat (m / 256 ^ (k - 1 - i) % 256)) = m % 256 ^ k := by
  intro k
  induction k with
  | zero => intro m; simp [val, Nat.mod_one]
  | succ k ih =>
    intro m
    rw [List.range_succ, List.map_append, List.map_cons, List.map_nil, val_append]
    have e : ((List.range k).map fun i => UInt8.ofNat (m / 256 ^ (k + 1 - 1 - i) % 256)) = (List.range k).map fun i => UInt8.ofNat (m / 256 / 256 ^ (k - 1 - i) % 256) := by
      apply List.map_congr_left
      intro i hi
      have hi' : i < k := List.mem_range.1 hi
      rw [Nat.div_div_eq_div_mul, ← Nat.pow_succ', show (k - 1 - i).succ = k + 1 - 1 - i by omega]
    rw [e, ih, show k + 1 - 1 - k = 0 by omega, Nat.pow_zero, Nat.div_one]
    have e2 : (UInt8.ofNat (m % 256)).toNat = m % 256 := by
      have : (UInt8.ofNat (m % 256)).toNat = m % 256 % 2 ^ 8 := rfl
      omega
    rw [e2, Nat.pow_succ', Nat.mod_mul, Nat.mul_comm, Nat.add_comm]
theorem val_digs (m : Nat) (h : m < 18446744073709551616) : val (digs m 0) = m := by
  have := val_digits (nb m) m
  rw [Nat.mod_eq_of_lt (nb_lt m h)] at this
  unfold digs
  simpa using this
theorem encI_nat (n : Nat) : encI (n : Int) = UInt8.ofNat (128 + nb n) :: digs n 0 := by
  have h1 : mag (n : Int) = n := by unfold mag; rw [if_neg (by omega)]; omega
  have h2 : flip (n : Int) = 0 := by unfold flip; rw [if_neg (by omega)]
  rw [encI, h1, h2, UInt8.xor_zero]
theorem encI_pre {n m : Nat} {r r' : List UInt8} (hn : n < 18446744073709551616) (hm : m < 18446744073709551616) (h : encI (n : Int) ++ r = encI (m : Int) ++ r') : n = m ∧ r = r' := by
  rw [encI_nat, encI_nat, List.cons_append, List.cons_append] at h
  obtain ⟨h1, h2⟩ := List.cons.inj h
  have hk : nb n = nb m := by
    have h3 := congrArg UInt8.toNat h1
    have e1 : (UInt8.ofNat (128 + nb n)).toNat = (128 + nb n) % 2 ^ 8 := rfl
    have e2 : (UInt8.ofNat (128 + nb m)).toNat = (128 + nb m) % 2 ^ 8 := rfl
    have := nb_le n
    have := nb_le m
    omega
  obtain ⟨h4, h5⟩ := List.append_inj h2 (by rw [length_digs, length_digs, hk])
  have := congrArg val h4
  rw [val_digs n hn, val_digs m hm] at this
  exact ⟨this, h5⟩
theorem encB_pre {s t r r' : List UInt8} (hs : s.length < 18446744073709551616) (ht : t.length < 18446744073709551616) (h : encB s ++ r = encB t ++ r') : s = t ∧ r = r' := by
  unfold encB at h
  rw [List.append_assoc, List.append_assoc] at h
  obtain ⟨h1, h2⟩ := encI_pre hs ht h
  exact List.append_inj h2 h1
theorem parts_pre : ∀ (ps qs : List (List UInt8)), (∀ x ∈ ps, x.length < 18446744073709551616) → (∀ x ∈ qs, x.length < 18446744073709551616) → (ps.map encB).flatten = (qs.map encB).flatten → ps = qs := by
  intro ps
  induction ps with
  | nil =>
    intro qs _ _ h
    cases qs with
    | nil => rfl
    | cons y r =>
      have := congrArg List.length h
      simp [encB, length_encI] at this
      omega
  | cons x r ih =>
    intro qs hp hq h
    cases qs with
    | nil =>
      have := congrArg List.length h
      simp [encB, length_encI] at this
    | cons y s =>
      simp only [List.map_cons, List.flatten_cons] at h
      obtain ⟨rfl, h2⟩ := encB_pre (hp x (List.mem_cons_self ..)) (hq y (List.mem_cons_self ..)) h
      rw [ih s (fun z hz => hp z (List.mem_cons_of_mem _ hz)) (fun z hz => hq z (List.mem_cons_of_mem _ hz)) h2]
/-- A tag that is a byte. -/
theorem byteOf_u8 (x : UInt8) : byteOf (x.toNat : Int) = x := by rw [byteOf_nat]; simp
theorem ofIn_inj {x y : UInt8} {ps qs : List (List UInt8)} (hp : ∀ x ∈ ps, x.length ≤ 400) (hq : ∀ x ∈ qs, x.length ≤ 400) (h : ofIn (x.toNat : Int) ps = ofIn (y.toNat : Int) qs) : x = y ∧ ps = qs := by
  unfold ofIn at h
  rw [byteOf_u8, byteOf_u8] at h
  obtain ⟨h1, h2⟩ := List.cons.inj h
  exact ⟨h1, parts_pre ps qs (fun z hz => by have := hp z hz; omega) (fun z hz => by have := hq z hz; omega) h2⟩
theorem take_eq_s {α : Type} (s t : List α) (j : Nat) (x y : α) (hx : s[j]? = some x) (hy : t[j]? = some y) : s.take (j + 1) = t.take (j + 1) ↔ s.take j = t.take j ∧ x = y := by
  obtain ⟨h1, e1⟩ := List.getElem?_eq_some_iff.1 hx
  obtain ⟨h2, e2⟩ := List.getElem?_eq_some_iff.1 hy
  rw [List.take_add_one, List.take_add_one, hx, hy]
  constructor
  · intro h
    obtain ⟨h3, h4⟩ := List.append_inj h (by simp; omega)
    exact ⟨h3, by simpa using h4⟩
  · rintro ⟨h3, rfl⟩; rw [h3]
theorem u8_eq (x y : UInt8) : decide ((x.toNat : Int) = (y.toNat : Int)) = decide (x = y) := by
  by_cases h : x = y
  · simp [h]
  · have : ¬ (x.toNat : Int) = (y.toNat : Int) := fun e => h (UInt8.toNat.inj (by omega))
    simp [h, this]
/-- Equality of two bools that are known to be the same. -/
theorem beq_of {p q : Bool} (h : p = q) : (p == q) = true := by rw [h]; simp

set_option maxRecDepth 4000 in
set_option maxHeartbeats 1000000 in
theorem c10 (x y : UInt8) (ps qs : List (List UInt8)) (ad ad2 : Option Addr) (c c2 : Nat) (w0 : World) (hR : Rs w0 ad ps.length c ps) (hn : ps.length ≤ 9223372036854775807) (hR2 : Rs w0 ad2 qs.length c2 qs) (hn2 : qs.length ≤ 9223372036854775807) (hG : GH w0) : Calls Tryd.prog 10 #[.agg #[B x, B y], .slice ad ps.length c, .slice ad2 qs.length c2] w0 fun e w' => e = .returned (.bool true) ∧ Ext w0 w' := by
  rcases (by cases few ps <;> cases few qs <;> simp : few ps = false ∨ (few ps = true ∧ few qs = false) ∨ (few ps = true ∧ few qs = true)) with hf | ⟨hf, hg⟩ | ⟨hf, hg⟩
  · refine start 120 Tryd.func10 rfl rfl rfl fun a hk => ?_
    have hB : Ext w0 w0 := Below.refl _ _
    refine wp_seq_k fun K1 hK1 => ?_
    refine wp_region_lit ?_
    refine la hk rfl (a_box hk rfl rfl fun a w b3 hk G => ?_)
    have hg_b3 : w0.heap.size ≤ b3 := Nat.le_trans hB.size G.ge
    have hB := ext_trans hB G.ext
    have h_b3 := G.at_
    clear G
    refine ls hk rfl rfl rfl (e_assign hk rfl _) fun a hk => ?_
    refine lnil (hK1 _ _ ?_)
    refine wp_seq_k fun K2 hK2 => ?_
    refine wp_region_lit ?_
    refine la hk rfl (a_call hk rfl rfl (c_fn (vs := []) hk rfl ok22) (c22 _ (hG.ext hB)) ?_)
    rintro e w ⟨rfl, hE⟩
    refine ⟨_, rfl, fun a hk => ?_⟩
    have h_b3 := ext_at hE h_b3
    have hB := ext_trans hB hE
    clear hE
    refine ls hk rfl rfl rfl (e_assign hk rfl _) fun a hk => ?_
    refine lnil (hK2 _ _ ?_)
    refine wp_seq_k fun K3 hK3 => ?_
    refine wp_seq_k fun K4 hK4 => ?_
    refine wp_region_lit ?_
    refine ls hk rfl rfl rfl (e_move hk rfl _) fun a hk => ?_
    refine la hk rfl (a_call hk rfl rfl (c_fn hk rfl ok25) (c25 ps ad c _ (Rd.ext hR hB) hn) ?_)
    rintro e w ⟨rfl, hE⟩
    refine ⟨_, rfl, fun a hk => ?_⟩
    have h_b3 := ext_at hE h_b3
    have hB := ext_trans hB hE
    rw [hf] at hk
    clear hE
    refine ls hk rfl rfl rfl (e_not hk rfl _) fun a hk => ?_
    refine ls hk rfl rfl rfl (e_move hk rfl _) fun a hk => ?_
    refine lno hk rfl rfl rfl fun a hk => ?_
    refine lno hk rfl rfl rfl fun a hk => ?_
    refine lno hk rfl rfl rfl fun a hk => ?_
    refine ls hk rfl rfl rfl (e_pickT hk rfl rfl _) fun a hk => ?_
    refine lnil (hK4 _ _ ?_)
    refine cdT hk rfl ?_
    refine wp_seq_k fun K5 hK5 => ?_
    refine wp_region_lit ?_
    refine ls hk rfl rfl rfl (e_move hk rfl _) fun a hk => ?_
    refine ls hk rfl rfl rfl (e_assign hk rfl _) fun a hk => ?_
    refine lnil (hK5 _ _ ?_)
    refine wp_ret ?_
    simp only [then_ret]
    exact ret1 hk rfl rfl ⟨rfl, hB⟩
  · refine start 120 Tryd.func10 rfl rfl rfl fun a hk => ?_
    have hB : Ext w0 w0 := Below.refl _ _
    refine wp_seq_k fun K1 hK1 => ?_
    refine wp_region_lit ?_
    refine la hk rfl (a_box hk rfl rfl fun a w b3 hk G => ?_)
    have hg_b3 : w0.heap.size ≤ b3 := Nat.le_trans hB.size G.ge
    have hB := ext_trans hB G.ext
    have h_b3 := G.at_
    clear G
    refine ls hk rfl rfl rfl (e_assign hk rfl _) fun a hk => ?_
    refine lnil (hK1 _ _ ?_)
    refine wp_seq_k fun K2 hK2 => ?_
    refine wp_region_lit ?_
    refine la hk rfl (a_call hk rfl rfl (c_fn (vs := []) hk rfl ok22) (c22 _ (hG.ext hB)) ?_)
    rintro e w ⟨rfl, hE⟩
    refine ⟨_, rfl, fun a hk => ?_⟩
    have h_b3 := ext_at hE h_b3
    have hB := ext_trans hB hE
    clear hE
    refine ls hk rfl rfl rfl (e_assign hk rfl _) fun a hk => ?_
    refine lnil (hK2 _ _ ?_)
    refine wp_seq_k fun K3 hK3 => ?_
    refine wp_seq_k fun K4 hK4 => ?_
    refine wp_region_lit ?_
    refine ls hk rfl rfl rfl (e_move hk rfl _) fun a hk => ?_
    refine la hk rfl (a_call hk rfl rfl (c_fn hk rfl ok25) (c25 ps ad c _ (Rd.ext hR hB) hn) ?_)
    rintro e w ⟨rfl, hE⟩
    refine ⟨_, rfl, fun a hk => ?_⟩
    have h_b3 := ext_at hE h_b3
    have hB := ext_trans hB hE
    rw [hf] at hk
    clear hE
    refine ls hk rfl rfl rfl (e_not hk rfl _) fun a hk => ?_
    refine ls hk rfl rfl rfl (e_move hk rfl _) fun a hk => ?_
    refine ls hk rfl rfl rfl (e_move hk rfl _) fun a hk => ?_
    refine la hk rfl (a_call hk rfl rfl (c_fn hk rfl ok25) (c25 qs ad2 c2 _ (Rd.ext hR2 hB) hn2) ?_)
    rintro e w ⟨rfl, hE⟩
    refine ⟨_, rfl, fun a hk => ?_⟩
    have h_b3 := ext_at hE h_b3
    have hB := ext_trans hB hE
    rw [hg] at hk
    clear hE
    refine ls hk rfl rfl rfl (e_not hk rfl _) fun a hk => ?_
    refine ls hk rfl rfl rfl (e_pickF hk rfl rfl _) fun a hk => ?_
    refine lnil (hK4 _ _ ?_)
    refine cdT hk rfl ?_
    refine wp_seq_k fun K5 hK5 => ?_
    refine wp_region_lit ?_
    refine ls hk rfl rfl rfl (e_move hk rfl _) fun a hk => ?_
    refine ls hk rfl rfl rfl (e_assign hk rfl _) fun a hk => ?_
    refine lnil (hK5 _ _ ?_)
    refine wp_ret ?_
    simp only [then_ret]
    exact ret1 hk rfl rfl ⟨rfl, hB⟩
  · have ⟨h12, hall⟩ := (few_iff ps).1 hf
    have ⟨h12q, hallq⟩ := (few_iff qs).1 hg
    have hlp : ∀ x ∈ ps, x.length ≤ 1000000 := fun x hx => by have := hall x hx; omega
    have hlq : ∀ x ∈ qs, x.length ≤ 1000000 := fun x hx => by have := hallq x hx; omega
    refine start 120 Tryd.func10 rfl rfl rfl fun a hk => ?_
    have hB : Ext w0 w0 := Below.refl _ _
    refine wp_seq_k fun K1 hK1 => ?_
    refine wp_region_lit ?_
    refine la hk rfl (a_box hk rfl rfl fun a w b3 hk G => ?_)
    have hg_b3 : w0.heap.size ≤ b3 := Nat.le_trans hB.size G.ge
    have hB := ext_trans hB G.ext
    have h_b3 := G.at_
    clear G
    refine ls hk rfl rfl rfl (e_assign hk rfl _) fun a hk => ?_
    refine lnil (hK1 _ _ ?_)
    refine wp_seq_k fun K2 hK2 => ?_
    refine wp_region_lit ?_
    refine la hk rfl (a_call hk rfl rfl (c_fn (vs := []) hk rfl ok22) (c22 _ (hG.ext hB)) ?_)
    rintro e w ⟨rfl, hE⟩
    refine ⟨_, rfl, fun a hk => ?_⟩
    have h_b3 := ext_at hE h_b3
    have hB := ext_trans hB hE
    clear hE
    refine ls hk rfl rfl rfl (e_assign hk rfl _) fun a hk => ?_
    refine lnil (hK2 _ _ ?_)
    refine wp_seq_k fun K3 hK3 => ?_
    refine wp_seq_k fun K4 hK4 => ?_
    refine wp_region_lit ?_
    refine ls hk rfl rfl rfl (e_move hk rfl _) fun a hk => ?_
    refine la hk rfl (a_call hk rfl rfl (c_fn hk rfl ok25) (c25 ps ad c _ (Rd.ext hR hB) hn) ?_)
    rintro e w ⟨rfl, hE⟩
    refine ⟨_, rfl, fun a hk => ?_⟩
    have h_b3 := ext_at hE h_b3
    have hB := ext_trans hB hE
    rw [hf] at hk
    clear hE
    refine ls hk rfl rfl rfl (e_not hk rfl _) fun a hk => ?_
    refine ls hk rfl rfl rfl (e_move hk rfl _) fun a hk => ?_
    refine ls hk rfl rfl rfl (e_move hk rfl _) fun a hk => ?_
    refine la hk rfl (a_call hk rfl rfl (c_fn hk rfl ok25) (c25 qs ad2 c2 _ (Rd.ext hR2 hB) hn2) ?_)
    rintro e w ⟨rfl, hE⟩
    refine ⟨_, rfl, fun a hk => ?_⟩
    have h_b3 := ext_at hE h_b3
    have hB := ext_trans hB hE
    rw [hg] at hk
    clear hE
    refine ls hk rfl rfl rfl (e_not hk rfl _) fun a hk => ?_
    refine ls hk rfl rfl rfl (e_pickF hk rfl rfl _) fun a hk => ?_
    refine lnil (hK4 _ _ ?_)
    refine cdF hk rfl ?_
    refine wp_skip (hK3 _ _ ?_)
    refine wp_seq_k fun K5 hK5 => ?_
    have hJ5 : ∀ (a : Act) (w : World), (Kn a 120 [(1, .slice ad ps.length c), (2, .slice ad2 qs.length c2), (3, .pointer (some ⟨b3, 0, none⟩)), (7, .bool true), (8, .bool (decide (x = y ∧ ps.length = qs.length ∧ ps.take 0 = qs.take 0)))] ∧ (Ext w0 w) ∧ (w.heap[b3]? = some (.cells #[B x, B y] 60 (0, 0)))) → K5 a w := by
      clear hk hB h_b3
      intro a w ⟨hk, hB, h_b3⟩
      refine hK5 _ _ ?_
      refine wp_seq_k fun K6 hK6 => ?_
      have hJ6 : ∀ (a : Act) (w : World), (Kn a 120 [(1, .slice ad ps.length c), (2, .slice ad2 qs.length c2), (3, .pointer (some ⟨b3, 0, none⟩)), (7, .bool true), (8, .bool (decide (x = y ∧ ps = qs)))] ∧ (Ext w0 w) ∧ (w.heap[b3]? = some (.cells #[B x, B y] 60 (0, 0)))) → K6 a w := by
        clear hk hB h_b3
        intro a w ⟨hk, hB, h_b3⟩
        refine hK6 _ _ ?_
        refine wp_seq_k fun K7 hK7 => ?_
        refine wp_region_lit ?_
        refine ls hk rfl rfl rfl (e_idxA1 0 hk rfl rfl Tryd.underlying60 sz5 rfl (by decide) _) fun a hk => ?_
        refine ls hk rfl rfl rfl (r_load (v := B x) hk rfl Tryd.underlying5 rfl h_b3 rfl) fun a hk => ?_
        refine ls hk rfl rfl rfl (e_conv hk rfl Tryd.underlying5 Tryd.underlying3 (i64 (by have := x.toNat_lt; omega) (by have := x.toNat_lt; omega)) _) fun a hk => ?_
        refine ls hk rfl rfl rfl (e_move hk rfl _) fun a hk => ?_
        refine la hk rfl (a_call hk rfl rfl (c_fn hk rfl ok42) (c42 (x.toNat : Int) ps ad c _ (Rd.ext hR hB) (by omega) hlp) ?_)
        rintro e w ⟨adx, cx, rfl, hownx, hE⟩
        refine ⟨_, rfl, fun a hk => ?_⟩
        have h_b3 := ext_at hE h_b3
        have hB := ext_trans hB hE
        obtain ⟨_, _, hv, _, hRx⟩ := Rd.of_own hownx
        cases hv
        clear hownx
        obtain ⟨X, hX⟩ : ∃ X, X = ofIn (x.toNat : Int) ps := ⟨_, rfl⟩
        have hXl : X.length ≤ 12000109 := by have := mlen (b := byteOf x.toNat) ps hlp ps.length; rw [List.take_length] at this; rw [hX]; unfold ofIn; omega
        clear hE
        refine ls hk rfl rfl rfl (e_assign hk rfl _) fun a hk => ?_
        refine lnil (hK7 _ _ ?_)
        refine wp_seq_k fun K8 hK8 => ?_
        refine wp_region_lit ?_
        refine ls hk rfl rfl rfl (e_idxA1 1 hk rfl rfl Tryd.underlying60 sz5 rfl (by decide) _) fun a hk => ?_
        refine ls hk rfl rfl rfl (r_load (v := B y) hk rfl Tryd.underlying5 rfl h_b3 rfl) fun a hk => ?_
        refine ls hk rfl rfl rfl (e_conv hk rfl Tryd.underlying5 Tryd.underlying3 (i64 (by have := y.toNat_lt; omega) (by have := y.toNat_lt; omega)) _) fun a hk => ?_
        refine ls hk rfl rfl rfl (e_move hk rfl _) fun a hk => ?_
        refine la hk rfl (a_call hk rfl rfl (c_fn hk rfl ok42) (c42 (y.toNat : Int) qs ad2 c2 _ (Rd.ext hR2 hB) (by omega) hlq) ?_)
        rintro e w ⟨ady, cy, rfl, howny, hE⟩
        refine ⟨_, rfl, fun a hk => ?_⟩
        have h_b3 := ext_at hE h_b3
        have hRx := hRx.ext hE
        have hB := ext_trans hB hE
        obtain ⟨_, _, hv, _, hRy⟩ := Rd.of_own howny
        cases hv
        clear howny
        obtain ⟨Y, hY⟩ : ∃ Y, Y = ofIn (y.toNat : Int) qs := ⟨_, rfl⟩
        have hYl : Y.length ≤ 12000109 := by have := mlen (b := byteOf y.toNat) qs hlq qs.length; rw [List.take_length] at this; rw [hY]; unfold ofIn; omega
        rw [← hX] at hk hRx
        rw [← hY] at hk hRy
        clear hE
        refine ls hk rfl rfl rfl (e_assign hk rfl _) fun a hk => ?_
        refine lnil (hK8 _ _ ?_)
        refine wp_seq_k fun K9 hK9 => ?_
        refine wp_seq_k fun K10 hK10 => ?_
        refine wp_region_lit ?_
        refine ls hk rfl rfl rfl (e_move hk rfl _) fun a hk => ?_
        refine lnil (hK10 _ _ ?_)
        refine cdB hk rfl (fun hb => ?_) (fun hb => ?_)
        · obtain ⟨rfl, rfl⟩ := of_decide_eq_true hb
          have hXY : X = Y := by rw [hX, hY]
          refine wp_seq_k fun K11 hK11 => ?_
          refine wp_region_lit ?_
          refine ls hk rfl rfl rfl (e_move hk rfl _) fun a hk => ?_
          refine ls hk rfl rfl rfl (e_move hk rfl _) fun a hk => ?_
          refine ls hk rfl rfl rfl (e_move hk rfl _) fun a hk => ?_
          refine ls hk rfl rfl rfl (e_str hk rfl hRx Tryd.underlying22 Tryd.underlying5 Tryd.underlying9) fun a hk => ?_
          refine ls hk rfl rfl rfl (e_move hk rfl _) fun a hk => ?_
          refine ls hk rfl rfl rfl (e_str hk rfl hRy Tryd.underlying22 Tryd.underlying5 Tryd.underlying9) fun a hk => ?_
          refine ls hk rfl rfl rfl (e_seql (b := true) hk rfl rfl (decide_eq_true hXY) _) fun a hk => ?_
          refine ls hk rfl rfl rfl (e_pickT hk rfl rfl _) fun a hk => ?_
          refine ls hk rfl rfl rfl (e_assign hk rfl _) fun a hk => ?_
          refine lnil (hK11 _ _ ?_)
          refine wp_ret ?_
          simp only [then_ret]
          exact ret1 hk rfl rfl ⟨rfl, hB⟩
        · have hne : X ≠ Y := by
            intro h
            rw [hX, hY] at h
            exact of_decide_eq_false hb (ofIn_inj hall hallq h)
          refine wp_skip (hK9 _ _ ?_)
          refine wp_seq_k fun K12 hK12 => ?_
          refine wp_region_lit ?_
          refine ls hk rfl rfl rfl (e_idxA1 0 hk rfl rfl Tryd.underlying60 sz5 rfl (by decide) _) fun a hk => ?_
          refine ls hk rfl rfl rfl (r_load (v := B x) hk rfl Tryd.underlying5 rfl h_b3 rfl) fun a hk => ?_
          refine ls hk rfl rfl rfl (e_conv hk rfl Tryd.underlying5 Tryd.underlying3 (i64 (by have := x.toNat_lt; omega) (by have := x.toNat_lt; omega)) _) fun a hk => ?_
          refine ls hk rfl rfl rfl (e_move hk rfl _) fun a hk => ?_
          refine la hk rfl (a_call hk rfl rfl (c_fn hk rfl ok35) (c35 (x.toNat : Int) ps ad c _ (Rd.ext hR hB) (hG.ext hB) (by omega) hlp) ?_)
          rintro e w ⟨rfl, hE⟩
          refine ⟨_, rfl, fun a hk => ?_⟩
          have h_b3 := ext_at hE h_b3
          have hRx := hRx.ext hE
          have hRy := hRy.ext hE
          have hB := ext_trans hB hE
          clear hE
          refine la hk rfl (a_alloc hk rfl zr44 fun a w b12 hk G => ?_)
          have n_b3_b12 : b3 ≠ b12 := G.ne h_b3
          have k_hRx_b12 := rd_keep hRx G
          have k_hRy_b12 := rd_keep hRy G
          have hg_b12 : w0.heap.size ≤ b12 := Nat.le_trans hB.size G.ge
          have h_b3 := ext_at G.ext h_b3
          have hRx := hRx.ext G.ext
          have hRy := hRy.ext G.ext
          have hB := ext_trans hB G.ext
          have h_b12 := G.at_
          clear G
          refine la hk rfl (a_st44 (l := ofD (x.toNat : Int) ps) hk rfl rfl (by simp) h_b12 rfl fun a w hk W => ?_)
          have h_b3 := W.keep n_b3_b12 h_b3
          have hRx := k_hRx_b12 _ _ _ hRx W
          have hRy := k_hRy_b12 _ _ _ hRy W
          have hB := W.below hB hg_b12
          have h_b12 := W.at_
          clear W
          refine lnil (hK12 _ _ ?_)
          refine wp_seq_k fun K13 hK13 => ?_
          refine wp_region_lit ?_
          refine ls hk rfl rfl rfl (e_idxA1 1 hk rfl rfl Tryd.underlying60 sz5 rfl (by decide) _) fun a hk => ?_
          refine ls hk rfl rfl rfl (r_load (v := B y) hk rfl Tryd.underlying5 rfl h_b3 rfl) fun a hk => ?_
          refine ls hk rfl rfl rfl (e_conv hk rfl Tryd.underlying5 Tryd.underlying3 (i64 (by have := y.toNat_lt; omega) (by have := y.toNat_lt; omega)) _) fun a hk => ?_
          refine ls hk rfl rfl rfl (e_move hk rfl _) fun a hk => ?_
          refine la hk rfl (a_call hk rfl rfl (c_fn hk rfl ok35) (c35 (y.toNat : Int) qs ad2 c2 _ (Rd.ext hR2 hB) (hG.ext hB) (by omega) hlq) ?_)
          rintro e w ⟨rfl, hE⟩
          refine ⟨_, rfl, fun a hk => ?_⟩
          have h_b3 := ext_at hE h_b3
          have hRx := hRx.ext hE
          have hRy := hRy.ext hE
          have h_b12 := ext_at hE h_b12
          have hB := ext_trans hB hE
          clear hE
          refine la hk rfl (a_alloc hk rfl zr44 fun a w b13 hk G => ?_)
          have n_b3_b13 : b3 ≠ b13 := G.ne h_b3
          have k_hRx_b13 := rd_keep hRx G
          have k_hRy_b13 := rd_keep hRy G
          have n_b12_b13 : b12 ≠ b13 := G.ne h_b12
          have hg_b13 : w0.heap.size ≤ b13 := Nat.le_trans hB.size G.ge
          have h_b3 := ext_at G.ext h_b3
          have hRx := hRx.ext G.ext
          have hRy := hRy.ext G.ext
          have h_b12 := ext_at G.ext h_b12
          have hB := ext_trans hB G.ext
          have h_b13 := G.at_
          clear G
          refine la hk rfl (a_st44 (l := ofD (y.toNat : Int) qs) hk rfl rfl (by simp) h_b13 rfl fun a w hk W => ?_)
          have h_b3 := W.keep n_b3_b13 h_b3
          have hRx := k_hRx_b13 _ _ _ hRx W
          have hRy := k_hRy_b13 _ _ _ hRy W
          have h_b12 := W.keep n_b12_b13 h_b12
          have hB := W.below hB hg_b13
          have h_b13 := W.at_
          clear W
          refine lnil (hK13 _ _ ?_)
          refine wp_seq_k fun K14 hK14 => ?_
          refine wp_region_lit ?_
          refine ls hk rfl rfl rfl (e_move hk rfl _) fun a hk => ?_
          refine la hk rfl (a_call hk rfl rfl (c_fn hk rfl ok23) (c23 X _ _ _ _ hRx (hG.ext hB) (by omega)) ?_)
          rintro e w ⟨rfl, hE⟩
          refine ⟨_, rfl, fun a hk => ?_⟩
          have h_b3 := ext_at hE h_b3
          have hRx := hRx.ext hE
          have hRy := hRy.ext hE
          have h_b12 := ext_at hE h_b12
          have h_b13 := ext_at hE h_b13
          have hB := ext_trans hB hE
          clear hE
          refine la hk rfl (a_alloc hk rfl zr24 fun a w b14 hk G => ?_)
          have n_b3_b14 : b3 ≠ b14 := G.ne h_b3
          have k_hRx_b14 := rd_keep hRx G
          have k_hRy_b14 := rd_keep hRy G
          have n_b12_b14 : b12 ≠ b14 := G.ne h_b12
          have n_b13_b14 : b13 ≠ b14 := G.ne h_b13
          have hg_b14 : w0.heap.size ≤ b14 := Nat.le_trans hB.size G.ge
          have h_b3 := ext_at G.ext h_b3
          have hRx := hRx.ext G.ext
          have hRy := hRy.ext G.ext
          have h_b12 := ext_at G.ext h_b12
          have h_b13 := ext_at G.ext h_b13
          have hB := ext_trans hB G.ext
          have h_b14 := G.at_
          clear G
          refine la hk rfl (a_storeB hk rfl rfl (bytes_oneA _) (by rw [sz24]; simp [length_sha]) h_b14 (by simp [length_sha, Value.cells]) fun a w hk W => ?_)
          have h_b3 := W.keep n_b3_b14 h_b3
          have hRx := k_hRx_b14 _ _ _ hRx W
          have hRy := k_hRy_b14 _ _ _ hRy W
          have h_b12 := W.keep n_b12_b14 h_b12
          have h_b13 := W.keep n_b13_b14 h_b13
          have hB := W.below hB hg_b14
          have h_b14 := W.at_
          clear W
          refine lnil (hK14 _ _ ?_)
          refine wp_seq_k fun K15 hK15 => ?_
          refine wp_region_lit ?_
          refine ls hk rfl rfl rfl (e_move hk rfl _) fun a hk => ?_
          refine la hk rfl (a_call hk rfl rfl (c_fn hk rfl ok23) (c23 Y _ _ _ _ hRy (hG.ext hB) (by omega)) ?_)
          rintro e w ⟨rfl, hE⟩
          refine ⟨_, rfl, fun a hk => ?_⟩
          have h_b3 := ext_at hE h_b3
          have hRx := hRx.ext hE
          have hRy := hRy.ext hE
          have h_b12 := ext_at hE h_b12
          have h_b13 := ext_at hE h_b13
          have h_b14 := ext_at hE h_b14
          have hB := ext_trans hB hE
          clear hE
          refine la hk rfl (a_alloc hk rfl zr24 fun a w b15 hk G => ?_)
          have n_b3_b15 : b3 ≠ b15 := G.ne h_b3
          have k_hRx_b15 := rd_keep hRx G
          have k_hRy_b15 := rd_keep hRy G
          have n_b12_b15 : b12 ≠ b15 := G.ne h_b12
          have n_b13_b15 : b13 ≠ b15 := G.ne h_b13
          have n_b14_b15 : b14 ≠ b15 := G.ne h_b14
          have hg_b15 : w0.heap.size ≤ b15 := Nat.le_trans hB.size G.ge
          have h_b3 := ext_at G.ext h_b3
          have hRx := hRx.ext G.ext
          have hRy := hRy.ext G.ext
          have h_b12 := ext_at G.ext h_b12
          have h_b13 := ext_at G.ext h_b13
          have h_b14 := ext_at G.ext h_b14
          have hB := ext_trans hB G.ext
          have h_b15 := G.at_
          clear G
          refine la hk rfl (a_storeB hk rfl rfl (bytes_oneA _) (by rw [sz24]; simp [length_sha]) h_b15 (by simp [length_sha, Value.cells]) fun a w hk W => ?_)
          have h_b3 := W.keep n_b3_b15 h_b3
          have hRx := k_hRx_b15 _ _ _ hRx W
          have hRy := k_hRy_b15 _ _ _ hRy W
          have h_b12 := W.keep n_b12_b15 h_b12
          have h_b13 := W.keep n_b13_b15 h_b13
          have h_b14 := W.keep n_b14_b15 h_b14
          have hB := W.below hB hg_b15
          have h_b15 := W.at_
          clear W
          refine lnil (hK15 _ _ ?_)
          refine wp_seq_k fun K16 hK16 => ?_
          refine wp_region_lit ?_
          refine ls hk rfl rfl rfl (e_assign hk rfl _) fun a hk => ?_
          refine lnil (hK16 _ _ ?_)
          refine wp_seq_k fun K17 hK17 => ?_
          refine wp_seq_k fun K18 hK18 => ?_
          refine wp_region_lit ?_
          refine ls hk rfl rfl rfl (e_assign hk rfl _) fun a hk => ?_
          refine lnil (hK18 _ _ ?_)
          refine wp_block ?_
          refine loopN (fun n a w => ∃ i : Nat, n = 16 - i ∧ i ≤ 16 ∧ Kn a 120 [(7, .bool true), (10, .slice adx X.length cx), (11, .slice ady Y.length cy), (12, .pointer (some ⟨b12, 0, none⟩)), (13, .pointer (some ⟨b13, 0, none⟩)), (14, .pointer (some ⟨b14, 0, none⟩)), (15, .pointer (some ⟨b15, 0, none⟩)), (16, .bool (decide ((sha X).take i = (sha Y).take i))), (17, I i)] ∧ (Ext w0 w) ∧ (w.heap[b12]? = some (.cells ((ofD (x.toNat : Int) ps).map B).toArray 44 (0, 0))) ∧ (w.heap[b13]? = some (.cells ((ofD (y.toNat : Int) qs).map B).toArray 44 (0, 0))) ∧ (w.heap[b14]? = some (.cells ((sha X).map B).toArray 24 (0, 0))) ∧ (w.heap[b15]? = some (.cells ((sha Y).map B).toArray 24 (0, 0))) ∧ (Rd w adx X.length cx 1 (X.map B)) ∧ (Rd w ady Y.length cy 1 (Y.map B))) (16 - 0) ?_ fun n a w hI => ?_
          · exact ⟨0, rfl, by omega, hk.sub _ ⟨rfl, rfl, rfl, rfl, rfl, rfl, rfl, rfl, rfl, trivial⟩, hB, h_b12, h_b13, h_b14, h_b15, hRx, hRy⟩
          clear hk hB h_b12 h_b13 h_b14 h_b15 hRx hRy
          obtain ⟨i, rfl, hi_le, hk, hB, h_b12, h_b13, h_b14, h_b15, hRx, hRy⟩ := hI
          refine wp_seq_k fun K19 hK19 => ?_
          refine wp_seq_k fun K20 hK20 => ?_
          refine wp_region_lit ?_
          refine ls hk rfl rfl rfl (e_move hk rfl _) fun a hk => ?_
          refine ls hk rfl rfl rfl (e_lss hk rfl rfl rfl _) fun a hk => ?_
          refine lnil (hK20 _ _ ?_)
          refine cdB hk rfl (fun hb => ?_) (fun hb => ?_)
          · have hi : i < 16 := by have := of_decide_eq_true hb; omega
            have hsx : (sha X)[i]? = some ((sha X).getD i 0) := by simp [length_sha, show i < 32 by omega]
            have hsy : (sha Y)[i]? = some ((sha Y).getD i 0) := by simp [length_sha, show i < 32 by omega]
            obtain ⟨cl, hcl⟩ : ∃ cl, cl = decide ((sha X).take i = (sha Y).take i) := ⟨_, rfl⟩
            rw [← hcl] at hk
            refine wp_skip (hK19 _ _ ?_)
            refine wp_seq_k fun K21 hK21 => ?_
            refine wp_block ?_
            cases cl
            · skip
              refine wp_region_ok (fun _ => True) [0, 0, 0, 0, 1, 0, 0, 1, 0, 0, 0] mixed ?_
              have hB := hB.drew
              have h_b12 := ext_at (ext_drew w) h_b12
              have h_b13 := ext_at (ext_drew w) h_b13
              have h_b14 := ext_at (ext_drew w) h_b14
              have h_b15 := ext_at (ext_drew w) h_b15
              have hRx := hRx.ext (ext_drew w)
              have hRy := hRy.ext (ext_drew w)
              refine d0 0 hk rfl (by kernel_rfl) rfl rfl rfl rfl (fun _ => e_move hk rfl _) fun a hk => ?_
              refine d0 1 hk rfl (by kernel_rfl) rfl rfl rfl rfl (fun _ => e_move hk rfl _) fun a hk => ?_
              refine dno 2 hk rfl (by kernel_rfl) rfl rfl rfl fun a hk => ?_
              refine dno 3 hk rfl (by kernel_rfl) rfl rfl rfl fun a hk => ?_
              refine dno 4 hk rfl (by kernel_rfl) rfl rfl rfl fun a hk => ?_
              refine dno 5 hk rfl (by kernel_rfl) rfl rfl rfl fun a hk => ?_
              refine dno 6 hk rfl (by kernel_rfl) rfl rfl rfl fun a hk => ?_
              refine dno 7 hk rfl (by kernel_rfl) rfl rfl rfl fun a hk => ?_
              refine dno 8 hk rfl (by kernel_rfl) rfl rfl rfl fun a hk => ?_
              refine d0 9 hk rfl (by kernel_rfl) rfl rfl rfl rfl (fun _ => e_pickF hk rfl rfl _) fun a hk => ?_
              refine d0 10 hk rfl (by kernel_rfl) rfl rfl rfl rfl (fun _ => e_assign (v := .bool (decide ((sha X).take (i + 1) = (sha Y).take (i + 1)))) hk (by rw [decide_eq_false (fun h => of_decide_eq_false hcl.symm ((take_eq_s _ _ i _ _ hsx hsy).1 h).1)]; rfl) _) fun a hk => ?_
              refine okFin (by kernel_rfl) (hK21 _ _ ?_)
              refine wp_region_lit ?_
              refine ls hk rfl rfl rfl (e_move hk rfl _) fun a hk => ?_
              refine ls hk rfl rfl rfl (e_add hk rfl rfl (i64 (by omega) (by omega)) _) fun a hk => ?_
              refine ls hk rfl rfl rfl (e_assign hk rfl _) fun a hk => ?_
              refine lnil (show ∃ m : Nat, m < _ ∧ _ from ⟨16 - (i + 1), by omega, i + 1, rfl, by omega, hk.sub _ ⟨rfl, rfl, rfl, rfl, rfl, rfl, rfl, rfl, rfl, trivial⟩, hB, h_b12, h_b13, h_b14, h_b15, hRx, hRy⟩)
            · skip
              refine wp_region_ok (fun _ => True) [0, 0, 0, 0, 1, 0, 0, 1, 0, 0, 0] mixed ?_
              have hB := hB.drew
              have h_b12 := ext_at (ext_drew w) h_b12
              have h_b13 := ext_at (ext_drew w) h_b13
              have h_b14 := ext_at (ext_drew w) h_b14
              have h_b15 := ext_at (ext_drew w) h_b15
              have hRx := hRx.ext (ext_drew w)
              have hRy := hRy.ext (ext_drew w)
              refine d0 0 hk rfl (by kernel_rfl) rfl rfl rfl rfl (fun _ => e_move hk rfl _) fun a hk => ?_
              refine d0 1 hk rfl (by kernel_rfl) rfl rfl rfl rfl (fun _ => e_move hk rfl _) fun a hk => ?_
              refine d0 2 hk rfl (by kernel_rfl) rfl rfl rfl rfl (fun _ => e_move hk rfl _) fun a hk => ?_
              refine d0 3 hk rfl (by kernel_rfl) rfl rfl rfl rfl (fun _ => e_idxA1 i hk rfl rfl Tryd.underlying24 sz5 rfl (by omega) _) fun a hk => ?_
              refine d1 4 hk rfl (by kernel_rfl) rfl rfl rfl rfl (r_load hk rfl Tryd.underlying5 rfl h_b14 (byte_at _ i (by rw [length_sha]; omega))) fun a hk => ?_
              refine d0 5 hk rfl (by kernel_rfl) rfl rfl rfl rfl (fun _ => e_move hk rfl _) fun a hk => ?_
              refine d0 6 hk rfl (by kernel_rfl) rfl rfl rfl rfl (fun _ => e_idxA1 i hk rfl rfl Tryd.underlying24 sz5 rfl (by omega) _) fun a hk => ?_
              refine d1 7 hk rfl (by kernel_rfl) rfl rfl rfl rfl (r_load hk rfl Tryd.underlying5 rfl h_b15 (byte_at _ i (by rw [length_sha]; omega))) fun a hk => ?_
              refine d0 8 hk rfl (by kernel_rfl) rfl rfl rfl rfl (fun _ => e_eql (b := decide ((sha X).take (i + 1) = (sha Y).take (i + 1))) hk rfl rfl (by rw [u8_eq]; apply decide_eq_decide.2; rw [take_eq_s _ _ i _ _ hsx hsy]; exact ⟨fun h => ⟨of_decide_eq_true hcl.symm, h⟩, fun h => h.2⟩) _) fun a hk => ?_
              refine d0 9 hk rfl (by kernel_rfl) rfl rfl rfl rfl (fun _ => e_pickT hk rfl rfl _) fun a hk => ?_
              refine d0 10 hk rfl (by kernel_rfl) rfl rfl rfl rfl (fun _ => e_assign hk rfl _) fun a hk => ?_
              refine okFin (by kernel_rfl) (hK21 _ _ ?_)
              refine wp_region_lit ?_
              refine ls hk rfl rfl rfl (e_move hk rfl _) fun a hk => ?_
              refine ls hk rfl rfl rfl (e_add hk rfl rfl (i64 (by omega) (by omega)) _) fun a hk => ?_
              refine ls hk rfl rfl rfl (e_assign hk rfl _) fun a hk => ?_
              refine lnil (show ∃ m : Nat, m < _ ∧ _ from ⟨16 - (i + 1), by omega, i + 1, rfl, by omega, hk.sub _ ⟨rfl, rfl, rfl, rfl, rfl, rfl, rfl, rfl, rfl, trivial⟩, hB, h_b12, h_b13, h_b14, h_b15, hRx, hRy⟩)
          · have hi : i = 16 := by have := of_decide_eq_false hb; omega
            subst hi
            refine wp_exit (hK17 _ _ ?_)
            refine wp_seq_k fun K22 hK22 => ?_
            refine wp_region_lit ?_
            refine ls hk rfl rfl rfl (e_move hk rfl _) fun a hk => ?_
            refine ls hk rfl rfl rfl (e_move hk rfl _) fun a hk => ?_
            refine ls hk rfl rfl rfl (e_move hk rfl _) fun a hk => ?_
            refine ls hk rfl rfl rfl (e_str hk rfl hRx Tryd.underlying22 Tryd.underlying5 Tryd.underlying9) fun a hk => ?_
            refine ls hk rfl rfl rfl (e_move hk rfl _) fun a hk => ?_
            refine ls hk rfl rfl rfl (e_str hk rfl hRy Tryd.underlying22 Tryd.underlying5 Tryd.underlying9) fun a hk => ?_
            refine ls hk rfl rfl rfl (e_sneq (b := true) hk rfl rfl (by simp [hne]) _) fun a hk => ?_
            refine ls hk rfl rfl rfl (e_pickT hk rfl rfl _) fun a hk => ?_
            refine ls hk rfl rfl rfl (e_move hk rfl _) fun a hk => ?_
            refine ls hk rfl rfl rfl (r_ld44 hk rfl h_b12 (by simp [*])) fun a hk => ?_
            refine ls hk rfl rfl rfl (r_ld44 hk rfl h_b13 (by simp [*])) fun a hk => ?_
            refine ls hk rfl rfl rfl (e_eqA (l := ofD (x.toNat : Int) ps) (r := ofD (y.toNat : Int) qs) hk rfl rfl Tryd.underlying44 Tryd.underlying5 sz5 (by simp) (by simp) eg44 rfl _) fun a hk => ?_
            refine ls hk rfl rfl rfl (e_move hk rfl _) fun a hk => ?_
            refine ls hk rfl rfl rfl (e_beql (b := true) hk rfl rfl Tryd.underlying4 (beq_of (by rw [hX, hY]; rfl)) _) fun a hk => ?_
            refine ls hk rfl rfl rfl (e_pickT hk rfl rfl _) fun a hk => ?_
            refine ls hk rfl rfl rfl (e_assign hk rfl _) fun a hk => ?_
            refine lnil (hK22 _ _ ?_)
            refine wp_ret ?_
            exact ret1 hk rfl rfl ⟨rfl, hB⟩
      refine wp_seq_k fun K23 hK23 => ?_
      refine wp_region_lit ?_
      refine ls hk rfl rfl rfl (e_assign hk rfl _) fun a hk => ?_
      refine lnil (hK23 _ _ ?_)
      refine wp_block ?_
      refine loopN (fun n a w => ∃ i : Nat, n = ps.length - i ∧ i ≤ ps.length ∧ Kn a 120 [(1, .slice ad ps.length c), (2, .slice ad2 qs.length c2), (3, .pointer (some ⟨b3, 0, none⟩)), (7, .bool true), (8, .bool (decide (x = y ∧ ps.length = qs.length ∧ ps.take i = qs.take i))), (9, I i)] ∧ (Ext w0 w) ∧ (w.heap[b3]? = some (.cells #[B x, B y] 60 (0, 0)))) (ps.length - 0) ?_ fun n a w hI => ?_
      · exact ⟨0, rfl, by omega, hk.sub _ ⟨rfl, rfl, rfl, rfl, rfl, rfl, trivial⟩, hB, h_b3⟩
      clear hk hB h_b3
      obtain ⟨i, rfl, hi_le, hk, hB, h_b3⟩ := hI
      refine wp_seq_k fun K24 hK24 => ?_
      refine wp_seq_k fun K25 hK25 => ?_
      rcases (by omega : i < ps.length ∨ i = ps.length) with hil | hil
      · obtain ⟨sm, hsm⟩ : ∃ sm, sm = decide (x = y ∧ ps.length = qs.length ∧ ps.take i = qs.take i) := ⟨_, rfl⟩
        rw [← hsm] at hk
        refine wp_region_lit ?_
        refine ls hk rfl rfl rfl (e_move hk rfl _) fun a hk => ?_
        refine ls hk rfl rfl rfl (e_move hk rfl _) fun a hk => ?_
        refine ls hk rfl rfl rfl (e_lenS hk rfl Tryd.underlying27 _) fun a hk => ?_
        refine ls hk rfl rfl rfl (e_lss (b := true) hk rfl rfl (decide_eq_true (by omega)) _) fun a hk => ?_
        refine ls hk rfl rfl rfl (e_move hk rfl _) fun a hk => ?_
        refine ls hk rfl rfl rfl (e_move hk rfl _) fun a hk => ?_
        refine ls hk rfl rfl rfl (e_pickT hk rfl rfl _) fun a hk => ?_
        refine lnil (hK25 _ _ ?_)
        refine cdB hk rfl (fun hb => ?_) (fun hb => ?_)
        · have ⟨hxy, hll, htt⟩ := of_decide_eq_true (hsm.symm.trans hb)
          have hil2 : i < qs.length := by omega
          obtain ⟨p, hp⟩ : ∃ p, ps[i]? = some p := ⟨_, List.getElem?_eq_getElem hil⟩
          obtain ⟨q, hq⟩ : ∃ q, qs[i]? = some q := ⟨_, List.getElem?_eq_getElem hil2⟩
          obtain ⟨bp, op, rfl, hcp⟩ := Rs.get (Rd.below hR hB (Nat.le_refl _)) i p hp
          obtain ⟨bq, oq, rfl, hcq⟩ := Rs.get (Rd.below hR2 hB (Nat.le_refl _)) i q hq
          clear hsm
          refine wp_skip (hK24 _ _ ?_)
          refine wp_seq_k fun K26 hK26 => ?_
          refine wp_block ?_
          refine wp_region_ok (fun _ => True) [0, 0, 0, 1, 0, 0, 0, 1, 0, 0] mixed ?_
          have hB := hB.drew
          have h_b3 := ext_at (ext_drew w) h_b3
          refine d0 0 hk rfl (by kernel_rfl) rfl rfl rfl rfl (fun _ => e_move hk rfl _) fun a hk => ?_
          refine d0 1 hk rfl (by kernel_rfl) rfl rfl rfl rfl (fun _ => e_move hk rfl _) fun a hk => ?_
          refine d0 2 hk rfl (by kernel_rfl) rfl rfl rfl rfl (fun _ => e_idxS1 i hk rfl rfl Tryd.underlying27 sz9 rfl hil _) fun a hk => ?_
          refine d1 3 hk rfl (by kernel_rfl) rfl rfl rfl rfl (r_load1 (v := Str p) hk rfl Tryd.underlying9 rfl (ext_cell (ext_drew _) hcp)) fun a hk => ?_
          refine d0 4 hk rfl (by kernel_rfl) rfl rfl rfl rfl (fun _ => e_move hk rfl _) fun a hk => ?_
          refine d0 5 hk rfl (by kernel_rfl) rfl rfl rfl rfl (fun _ => e_move hk rfl _) fun a hk => ?_
          refine d0 6 hk rfl (by kernel_rfl) rfl rfl rfl rfl (fun _ => e_idxS1 i hk rfl rfl Tryd.underlying27 sz9 rfl hil2 _) fun a hk => ?_
          refine d1 7 hk rfl (by kernel_rfl) rfl rfl rfl rfl (r_load1 (v := Str q) hk rfl Tryd.underlying9 rfl (ext_cell (ext_drew _) hcq)) fun a hk => ?_
          refine d0 8 hk rfl (by kernel_rfl) rfl rfl rfl rfl (fun _ => e_seql (b := decide (x = y ∧ ps.length = qs.length ∧ ps.take (i + 1) = qs.take (i + 1))) hk rfl rfl (by apply decide_eq_decide.2; rw [take_eq_s ps qs i p q hp hq]; exact ⟨fun h => ⟨hxy, hll, htt, h⟩, fun h => h.2.2.2⟩) _) fun a hk => ?_
          refine d0 9 hk rfl (by kernel_rfl) rfl rfl rfl rfl (fun _ => e_assign hk rfl _) fun a hk => ?_
          refine okFin (by kernel_rfl) (hK26 _ _ ?_)
          refine wp_region_lit ?_
          refine ls hk rfl rfl rfl (e_move hk rfl _) fun a hk => ?_
          refine ls hk rfl rfl rfl (e_add hk rfl rfl (i64 (by omega) (by omega)) _) fun a hk => ?_
          refine ls hk rfl rfl rfl (e_assign hk rfl _) fun a hk => ?_
          refine lnil (show ∃ m : Nat, m < _ ∧ _ from ⟨ps.length - (i + 1), by omega, i + 1, rfl, by omega, hk.sub _ ⟨rfl, rfl, rfl, rfl, rfl, rfl, trivial⟩, hB, h_b3⟩)
        · have hfin : sm = decide (x = y ∧ ps = qs) := by
            rw [hb]
            symm
            apply decide_eq_false
            rintro ⟨h1, h2⟩
            rw [hb] at hsm
            exact of_decide_eq_false hsm.symm ⟨h1, by rw [h2], by rw [h2]⟩
          refine wp_exit (hJ6 _ _ ⟨hk.sub _ ⟨rfl, rfl, rfl, rfl, by rw [← hfin]; rfl, trivial⟩, hB, h_b3⟩)
      · subst hil
        have hfin : decide (x = y ∧ ps.length = qs.length ∧ ps.take ps.length = qs.take ps.length) = decide (x = y ∧ ps = qs) := by
          apply decide_eq_decide.2
          constructor
          · rintro ⟨h1, h2, h3⟩
            rw [List.take_length, h2, List.take_length] at h3
            exact ⟨h1, h3⟩
          · rintro ⟨h1, h2⟩
            exact ⟨h1, by rw [h2], by rw [h2]⟩
        refine wp_region_lit ?_
        refine ls hk rfl rfl rfl (e_move hk rfl _) fun a hk => ?_
        refine ls hk rfl rfl rfl (e_move hk rfl _) fun a hk => ?_
        refine ls hk rfl rfl rfl (e_lenS hk rfl Tryd.underlying27 _) fun a hk => ?_
        refine ls hk rfl rfl rfl (e_lss (b := false) hk rfl rfl (decide_eq_false (by omega)) _) fun a hk => ?_
        refine ls hk rfl rfl rfl (e_move hk rfl _) fun a hk => ?_
        refine lno hk rfl rfl rfl fun a hk => ?_
        refine ls hk rfl rfl rfl (e_pickF hk rfl rfl _) fun a hk => ?_
        refine lnil (hK25 _ _ ?_)
        refine cdF hk rfl ?_
        refine wp_exit (hJ6 _ _ ⟨hk.sub _ ⟨rfl, rfl, rfl, rfl, by rw [← hfin]; rfl, trivial⟩, hB, h_b3⟩)
    by_cases hxy : x = y
    · skip
      refine wp_region_lit ?_
      refine ls hk rfl rfl rfl (e_idxA1 0 hk rfl rfl Tryd.underlying60 sz5 rfl (by decide) _) fun a hk => ?_
      refine ls hk rfl rfl rfl (r_load (v := B x) hk rfl Tryd.underlying5 rfl h_b3 rfl) fun a hk => ?_
      refine ls hk rfl rfl rfl (e_idxA1 1 hk rfl rfl Tryd.underlying60 sz5 rfl (by decide) _) fun a hk => ?_
      refine ls hk rfl rfl rfl (r_load (v := B y) hk rfl Tryd.underlying5 rfl h_b3 rfl) fun a hk => ?_
      refine ls hk rfl rfl rfl (e_eql (b := decide (x = y)) hk rfl rfl (u8_eq x y) _) fun a hk => ?_
      rw [decide_eq_true hxy] at hk
      refine ls hk rfl rfl rfl (e_move hk rfl _) fun a hk => ?_
      refine ls hk rfl rfl rfl (e_move hk rfl _) fun a hk => ?_
      refine ls hk rfl rfl rfl (e_lenS hk rfl Tryd.underlying27 _) fun a hk => ?_
      refine ls hk rfl rfl rfl (e_move hk rfl _) fun a hk => ?_
      refine ls hk rfl rfl rfl (e_lenS hk rfl Tryd.underlying27 _) fun a hk => ?_
      refine ls hk rfl rfl rfl (e_eql hk rfl rfl rfl _) fun a hk => ?_
      refine ls hk rfl rfl rfl (e_pickT hk rfl rfl _) fun a hk => ?_
      rw [show decide ((ps.length : Int) = (qs.length : Int)) = decide (x = y ∧ ps.length = qs.length ∧ ps.take 0 = qs.take 0) from decide_eq_decide.2 ⟨fun h => ⟨hxy, by omega, by rw [List.take_zero, List.take_zero]⟩, fun h => by have := h.2.1; omega⟩] at hk
      refine ls hk rfl rfl rfl (e_assign hk rfl _) fun a hk => ?_
      refine lnil (hJ5 _ _ ⟨hk.sub _ ⟨rfl, rfl, rfl, rfl, rfl, trivial⟩, hB, h_b3⟩)
    · skip
      refine wp_region_lit ?_
      refine ls hk rfl rfl rfl (e_idxA1 0 hk rfl rfl Tryd.underlying60 sz5 rfl (by decide) _) fun a hk => ?_
      refine ls hk rfl rfl rfl (r_load (v := B x) hk rfl Tryd.underlying5 rfl h_b3 rfl) fun a hk => ?_
      refine ls hk rfl rfl rfl (e_idxA1 1 hk rfl rfl Tryd.underlying60 sz5 rfl (by decide) _) fun a hk => ?_
      refine ls hk rfl rfl rfl (r_load (v := B y) hk rfl Tryd.underlying5 rfl h_b3 rfl) fun a hk => ?_
      refine ls hk rfl rfl rfl (e_eql (b := decide (x = y)) hk rfl rfl (u8_eq x y) _) fun a hk => ?_
      rw [decide_eq_false hxy] at hk
      refine ls hk rfl rfl rfl (e_move hk rfl _) fun a hk => ?_
      refine lno hk rfl rfl rfl fun a hk => ?_
      refine lno hk rfl rfl rfl fun a hk => ?_
      refine lno hk rfl rfl rfl fun a hk => ?_
      refine lno hk rfl rfl rfl fun a hk => ?_
      refine lno hk rfl rfl rfl fun a hk => ?_
      refine ls hk rfl rfl rfl (e_pickF hk rfl rfl _) fun a hk => ?_
      refine ls hk rfl rfl rfl (e_assign (v := .bool (decide (x = y ∧ ps.length = qs.length ∧ ps.take 0 = qs.take 0))) hk (by rw [show decide (x = y ∧ ps.length = qs.length ∧ ps.take 0 = qs.take 0) = false by simp [hxy]]; rfl) _) fun a hk => ?_
      refine lnil (hJ5 _ _ ⟨hk.sub _ ⟨rfl, rfl, rfl, rfl, rfl, trivial⟩, hB, h_b3⟩)

end Go.Proofs.YtidfbboalbchiaaDoor
