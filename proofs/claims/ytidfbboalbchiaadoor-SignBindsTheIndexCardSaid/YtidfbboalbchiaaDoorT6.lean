/- Part 6 of the texts that a claim's last texts stand on: A47, A48, A49, EqI, EqM. Conditions: those that each theorem names. -/
import Derived.Test.YtidfbboalbchiaaDoorT5
import Derived.Lib.Builder
import Derived.Lib.UnsafeStr
import Derived.Laws.Externs
import Derived.Test.YtidfbboalbchiaaDoorT3
import Derived.MapKept
namespace Go.Proofs.YtidfbboalbchiaaDoor
open Go Go.RowKit

section
variable {P : Program} {Q : Exit → Act → World → Prop} {a : Act} {w : World} {N : Nat} {L : Fm}
/-- Three results. -/
theorem ret3 {fn : Func} {t u s : Tmp} {R : Ending → World → Prop} {v v' v'' : Value} (hk : Kn a N L) (hr : fn.results = #[.tmp t, .tmp u, .tmp s]) (hv : lk L t = some v) (hv' : lk L u = some v') (hv'' : lk L s = some v'') (h : R (.returned (.tuple #[v, v', v''])) w) : bodyPost P fn R .ret a w := by
  refine bodyPost_ret ?_ hk.df h
  have h1 := hk.ev _ _ hv
  have h2 := hk.ev _ _ hv'
  have h3 := hk.ev _ _ hv''
  have h1' : a.tmps[t]?.getD undef = v := by simpa using h1
  have h2' : a.tmps[u]?.getD undef = v' := by simpa using h2
  have h3' : a.tmps[s]?.getD undef = v'' := by simpa using h3
  simp [results, hr, h1', h2', h3']
end
theorem flT {b : UInt8} (h : (b.toNat : Int) < 128) : flB b = 255 := by
  unfold flB
  rw [if_pos (UInt8.lt_iff_toNat_lt.2 (by have e : (128 : UInt8).toNat = 128 := rfl; omega))]
theorem flF {b : UInt8} (h : ¬ (b.toNat : Int) < 128) : flB b = 0 := by
  unfold flB
  rw [if_neg (fun hc => by have := UInt8.lt_iff_toNat_lt.1 hc; have e : (128 : UInt8).toNat = 128 := rfl; omega)]
theorem xor255 (x : UInt8) : (x ^^^ 255).toNat = 255 - x.toNat := by
  have h : ∀ n, n < 256 → (UInt8.ofNat n ^^^ 255).toNat = 255 - (UInt8.ofNat n).toNat := by decide +kernel
  have := h x.toNat x.toNat_lt
  rwa [UInt8.ofNat_toNat] at this
theorem kB_T {b : UInt8} (h : (b.toNat : Int) < 128) : kB b = 127 - b.toNat := by
  unfold kB; rw [flT h, xor255]; omega
theorem kB_F {b : UInt8} (h : ¬ (b.toNat : Int) < 128) : kB b = b.toNat - 128 := by
  unfold kB; rw [flF h, UInt8.xor_zero]
abbrev vR (b : UInt8) (r : List UInt8) (j : Nat) : Nat := val ((r.take j).map (· ^^^ flB b))
def gI (b : UInt8) (r : List UInt8) : Int := if b < 128 then -1 - (vR b r (kB b) : Int) else vR b r (kB b)
theorem gI_T {b : UInt8} (r : List UInt8) (h : (b.toNat : Int) < 128) : gI b r = -1 - (vR b r (kB b) : Int) := by
  unfold gI
  rw [if_pos (UInt8.lt_iff_toNat_lt.2 (by have e : (128 : UInt8).toNat = 128 := rfl; omega))]
theorem gI_F {b : UInt8} (r : List UInt8) (h : ¬ (b.toNat : Int) < 128) : gI b r = vR b r (kB b) := by
  unfold gI
  rw [if_neg (fun hc => by have := UInt8.lt_iff_toNat_lt.1 hc; have e : (128 : UInt8).toNat = 128 := rfl; omega)]
section
variable {b : UInt8} {r : List UInt8}
theorem getI_nil : getI [] = (0, 0, 3) := rfl
theorem getI_big (h : kB b > 8) : getI (b :: r) = (0, 0, 2) := by rw [getI, if_pos h]
theorem getI_more (h : ¬ kB b > 8) (h2 : r.length < kB b) : getI (b :: r) = (0, 0, 3) := by rw [getI, if_neg h, if_pos h2]
theorem getI_zero (h : ¬ kB b > 8) (h2 : ¬ r.length < kB b) (h3 : 0 < kB b ∧ r.getD 0 0 ^^^ flB b = 0) : getI (b :: r) = (0, 0, 2) := by rw [getI, if_neg h, if_neg h2, if_pos h3]
theorem getI_wide (h : ¬ kB b > 8) (h2 : ¬ r.length < kB b) (h4 : 9223372036854775808 ≤ vR b r (kB b)) : getI (b :: r) = (0, 0, 2) := by
  rw [getI, if_neg h, if_neg h2]
  split
  · rfl
  · first
    | rfl
    | rw [if_pos h4]
theorem getI_ok (h : ¬ kB b > 8) (h2 : ¬ r.length < kB b) (h3 : ¬ (0 < kB b ∧ r.getD 0 0 ^^^ flB b = 0)) (h4 : ¬ 9223372036854775808 ≤ vR b r (kB b)) : getI (b :: r) = (gI b r, kB b + 1, 0) := by
  rw [getI, if_neg h, if_neg h2, if_neg h3, if_neg h4]; rfl
theorem vR_succ (b : UInt8) (r : List UInt8) (j : Nat) (hj : j < r.length) : vR b r (j + 1) = vR b r j * 256 + (r.getD j 0 ^^^ flB b).toNat := by
  unfold vR
  rw [List.take_succ_eq_append_getElem hj, List.map_append, List.map_cons, List.map_nil, val_append]
  simp [List.getD_eq_getElem?_getD, hj]
theorem vR_lt (b : UInt8) (r : List UInt8) (j : Nat) : vR b r j < 256 ^ j := by
  have h := val_lt ((r.take j).map (· ^^^ flB b))
  have hl : ((r.take j).map (· ^^^ flB b)).length ≤ j := by simp; omega
  exact Nat.lt_of_lt_of_le h (Nat.pow_le_pow_right (by decide) hl)
theorem vR_lt8 (b : UInt8) (r : List UInt8) (j : Nat) (hj : j ≤ 8) : vR b r j < 18446744073709551616 := Nat.lt_of_lt_of_le (vR_lt b r j) (Nat.le_trans (Nat.pow_le_pow_right (by decide) hj) (by decide))
theorem vR_lt7 (b : UInt8) (r : List UInt8) (j : Nat) (hj : j ≤ 7) : vR b r j < 72057594037927936 := Nat.lt_of_lt_of_le (vR_lt b r j) (Nat.le_trans (Nat.pow_le_pow_right (by decide) hj) (by decide))
theorem vR_lt6 (b : UInt8) (r : List UInt8) (j : Nat) (hj : j ≤ 6) : vR b r j < 281474976710656 := Nat.lt_of_lt_of_le (vR_lt b r j) (Nat.le_trans (Nat.pow_le_pow_right (by decide) hj) (by decide))
/-- The encoding of what was read is what was read, if its first digit is not zero. -/
theorem enc_iff (h8 : ¬ kB b > 8) (hr : ¬ r.length < kB b) (h4 : ¬ 9223372036854775808 ≤ vR b r (kB b)) : encI (gI b r) = (b :: r).take (kB b + 1) ↔ ¬ (0 < kB b ∧ r.getD 0 0 ^^^ flB b = 0) := by
  have hl : (r.take (kB b)).length = kB b := by simp; omega
  have hm : mag (gI b r) = vR b r (kB b) ∧ flip (gI b r) = flB b := by
    by_cases h : (b.toNat : Int) < 128
    · rw [gI_T r h, flT h]
      unfold mag flip
      rw [if_pos (by omega), if_pos (by omega)]
      exact ⟨by omega, rfl⟩
    · rw [gI_F r h, flF h]
      unfold mag flip
      rw [if_neg (by omega), if_neg (by omega)]
      exact ⟨by omega, rfl⟩
  obtain ⟨hm1, hm2⟩ := hm
  rw [List.take_succ_cons]
  unfold encI
  rw [hm1, hm2]
  have h128 := fl_ge b
  constructor
  · intro he ⟨hk, hz⟩
    have hlen := congrArg List.length he
    simp only [List.length_cons, length_digs, hl] at hlen
    cases hq : r.take (kB b) with
    | nil => rw [hq] at hl; simp at hl; omega
    | cons x q =>
      have hx : r.getD 0 0 = x := by
        cases r with
        | nil => simp at hq
        | cons y r' =>
          rw [show kB b = (kB b - 1) + 1 by omega, List.take_succ_cons] at hq
          simp at hq; simpa using hq.1
      have h1 : vR b r (kB b) = val ((x ^^^ flB b) :: q.map (· ^^^ flB b)) := by unfold vR; rw [hq]; rfl
      have h2 := nb_val_lt (x ^^^ flB b) (q.map (· ^^^ flB b)) (by rw [← hx]; exact hz)
      rw [← h1, List.length_map] at h2
      have h3 : q.length + 1 = kB b := by rw [← hl, hq]; rfl
      omega
  · intro hno
    have h0 : ∀ x q, (r.take (kB b)).map (· ^^^ flB b) = x :: q → x ≠ 0 := by
      intro x q hq hx
      apply hno
      cases r with
      | nil => simp at hq
      | cons y r' =>
        cases hk : kB b with
        | zero => rw [hk] at hq; simp at hq
        | succ n =>
          rw [hk, List.take_succ_cons, List.map_cons] at hq
          refine ⟨by omega, ?_⟩
          have := (List.cons.inj hq).1
          simp only [List.getD_cons_zero]
          rw [this, hx]
    have hd := digs_val (r.take (kB b)) (flB b) (by omega) h0
    have hn := nb_val ((r.take (kB b)).map (· ^^^ flB b)) (by simp; omega) h0
    rw [List.length_map, hl] at hn
    unfold vR
    have e : UInt8.ofNat (128 + kB b) = b ^^^ flB b := by
      unfold kB
      rw [show 128 + ((b ^^^ flB b).toNat - 128) = (b ^^^ flB b).toNat by omega, UInt8.ofNat_toNat]
    rw [hd, hn, e, xor_xor8]
theorem gI_64 (h4 : ¬ 9223372036854775808 ≤ vR b r (kB b)) : is64 (gI b r) := by
  unfold gI
  split <;> exact ⟨by omega, by omega⟩
end
theorem bvN (m : Nat) (h : m < 18446744073709551616) : (BitVec.ofInt 64 (m : Int)).toNat = m := by
  rw [BitVec.toNat_ofInt]; omega
theorem u_or (m x : Nat) (hm : m < 72057594037927936) (hx : x < 256) : IntKind.u64.wrap ((BitVec.ofInt IntKind.u64.bits ((m * 256 : Nat) : Int) ||| BitVec.ofInt IntKind.u64.bits (x : Int)).toNat : Int) = ((m * 256 + x : Nat) : Int) := by
  show IntKind.u64.wrap ((BitVec.ofInt 64 ((m * 256 : Nat) : Int) ||| BitVec.ofInt 64 (x : Int)).toNat : Int) = _
  rw [BitVec.toNat_or, bvN _ (by omega), bvN _ (by omega)]
  have := Nat.shiftLeft_add_eq_or_of_lt (b := x) (i := 8) hx m
  rw [Nat.shiftLeft_eq] at this
  rw [← this]
  exact u64 (by omega) (by omega)
theorem c_neg (m : Nat) (hm : m < 9223372036854775808) : IntKind.i64.wrap ((18446744073709551615 - m : Nat) : Int) = -1 - (m : Int) := by
  unfold IntKind.wrap; simp [IntKind.bits, IntKind.signed]; omega
def GRes (s : List UInt8) (e : Ending) : Prop := e = .returned (.tuple #[I (getI s).1, I ((getI s).2.1 : Nat), I (getI s).2.2])
theorem gres {s : List UInt8} {n : Int} {k : Nat} {e : Int} (h : getI s = (n, k, e)) {k' : Int} (hk : k' = (k : Int)) : GRes s (.returned (.tuple #[I n, I k', I e])) := by
  unfold GRes; rw [h, hk]

theorem below_cell {w w' : World} {p : Addr} {v : Value} (h : Ext w w') (hc : w.cell? p = some v) : w'.cell? p = some v := ext_cell h hc

set_option maxRecDepth 4000 in
set_option maxHeartbeats 1000000 in
theorem c82 (s : List UInt8) (ad : Option Addr) (c : Nat) (w0 : World) (hR : Rd w0 ad s.length c 1 (s.map B)) (hl : s.length ≤ 1000000000) : Calls Tryd.prog 82 #[.slice ad s.length c] w0 fun e w' => GRes s e ∧ Ext w0 w' := by
  rcases s with _ | ⟨b, r⟩
  · refine start 71 Tryd.func82 rfl rfl rfl fun a hk => ?_
    have hB : Ext w0 w0 := Below.refl _ _
    refine wp_seq_k fun K1 hK1 => ?_
    refine wp_region_lit ?_
    refine ls hk rfl rfl rfl (e_assign hk rfl _) fun a hk => ?_
    refine ls hk rfl rfl rfl (e_assign hk rfl _) fun a hk => ?_
    refine ls hk rfl rfl rfl (e_assign hk rfl _) fun a hk => ?_
    refine lnil (hK1 _ _ ?_)
    refine wp_seq_k fun K2 hK2 => ?_
    refine wp_seq_k fun K3 hK3 => ?_
    refine wp_region_lit ?_
    refine ls hk rfl rfl rfl (e_move hk rfl _) fun a hk => ?_
    refine ls hk rfl rfl rfl (e_lenS hk rfl Tryd.underlying22 _) fun a hk => ?_
    refine ls hk rfl rfl rfl (e_eql (b := true) hk rfl rfl rfl _) fun a hk => ?_
    refine lnil (hK3 _ _ ?_)
    refine cdT hk rfl ?_
    refine wp_seq_k fun K4 hK4 => ?_
    refine wp_region_lit ?_
    refine ls hk rfl rfl rfl (e_assign hk rfl _) fun a hk => ?_
    refine ls hk rfl rfl rfl (e_assign hk rfl _) fun a hk => ?_
    refine ls hk rfl rfl rfl (e_assign hk rfl _) fun a hk => ?_
    refine lnil (hK4 _ _ ?_)
    refine wp_ret ?_
    first
      | exact ret3 hk rfl rfl rfl rfl ⟨gres (getI_nil) (by omega), hB⟩
      | (simp only [then_ret]; exact ret3 hk rfl rfl rfl rfl ⟨gres (getI_nil) (by omega), hB⟩)
      | (simp only [blk_ret, then_ret]; exact ret3 hk rfl rfl rfl rfl ⟨gres (getI_nil) (by omega), hB⟩)
  · have hx0 := (b ^^^ flB b).toNat_lt
    have hb0 := b.toNat_lt
    have h128 := fl_ge b
    obtain ⟨b0, o0, rfl, hc0⟩ := hR.2.2 0 (B b) rfl
    have hsl : (b :: r).length = r.length + 1 := rfl
    refine start 71 Tryd.func82 rfl rfl rfl fun a hk => ?_
    have hB : Ext w0 w0 := Below.refl _ _
    refine wp_seq_k fun K1 hK1 => ?_
    refine wp_region_lit ?_
    refine ls hk rfl rfl rfl (e_assign hk rfl _) fun a hk => ?_
    refine ls hk rfl rfl rfl (e_assign hk rfl _) fun a hk => ?_
    refine ls hk rfl rfl rfl (e_assign hk rfl _) fun a hk => ?_
    refine lnil (hK1 _ _ ?_)
    refine wp_seq_k fun K2 hK2 => ?_
    refine wp_seq_k fun K3 hK3 => ?_
    refine wp_region_lit ?_
    refine ls hk rfl rfl rfl (e_move hk rfl _) fun a hk => ?_
    refine ls hk rfl rfl rfl (e_lenS hk rfl Tryd.underlying22 _) fun a hk => ?_
    refine ls hk rfl rfl rfl (e_eql (b := false) hk rfl rfl (decide_eq_false (by omega)) _) fun a hk => ?_
    refine lnil (hK3 _ _ ?_)
    refine cdF hk rfl ?_
    refine wp_skip (hK2 _ _ ?_)
    refine wp_seq_k fun K4 hK4 => ?_
    refine wp_region_lit ?_
    refine ls hk rfl rfl rfl (e_assign hk rfl _) fun a hk => ?_
    refine lnil (hK4 _ _ ?_)
    refine wp_seq_k fun K5 hK5 => ?_
    have hJ5 : ∀ (a : Act) (w : World), (Kn a 71 [(0, .slice (some ⟨b0, o0, none⟩) (b :: r).length c), (5, B (flB b))] ∧ (Ext w0 w)) → K5 a w := by
      clear hk hB
      intro a w ⟨hk, hB⟩
      refine hK5 _ _ ?_
      refine wp_seq_k fun K6 hK6 => ?_
      refine wp_region_lit ?_
      refine ls hk rfl rfl rfl (e_move hk rfl _) fun a hk => ?_
      refine ls hk rfl rfl rfl (e_idxS1 0 hk rfl rfl Tryd.underlying22 sz5 rfl (by omega) _) fun a hk => ?_
      refine ls hk rfl rfl rfl (r_load1 hk rfl Tryd.underlying5 rfl (below_cell hB hc0)) fun a hk => ?_
      refine ls hk rfl rfl rfl (e_move hk rfl _) fun a hk => ?_
      refine ls hk rfl rfl rfl (e_xor hk rfl rfl (b_xor _ _) _) fun a hk => ?_
      refine ls hk rfl rfl rfl (e_conv (q := (((b ^^^ flB b).toNat : Nat) : Int)) hk rfl Tryd.underlying5 Tryd.underlying3 (i64 (by omega) (by omega)) _) fun a hk => ?_
      refine ls hk rfl rfl rfl (e_sub (q := ((kB b : Nat) : Int)) hk rfl rfl (by rw [i64 (by omega) (by omega)]; unfold kB; omega) _) fun a hk => ?_
      refine ls hk rfl rfl rfl (e_assign hk rfl _) fun a hk => ?_
      refine lnil (hK6 _ _ ?_)
      refine wp_seq_k fun K7 hK7 => ?_
      refine wp_block ?_
      refine wp_seq_k fun K8 hK8 => ?_
      refine wp_region_lit ?_
      refine ls hk rfl rfl rfl (e_move hk rfl _) fun a hk => ?_
      refine ls hk rfl rfl rfl (e_gtr hk rfl rfl rfl _) fun a hk => ?_
      refine ls hk rfl rfl rfl (e_assign hk rfl _) fun a hk => ?_
      refine lnil (hK8 _ _ ?_)
      refine cdB hk rfl (fun hb => ?_) (fun hb => ?_)
      · have h8 : kB b > 8 := by have := of_decide_eq_true hb; omega
        refine wp_seq_k fun K9 hK9 => ?_
        refine wp_region_lit ?_
        refine ls hk rfl rfl rfl (e_assign hk rfl _) fun a hk => ?_
        refine ls hk rfl rfl rfl (e_assign hk rfl _) fun a hk => ?_
        refine ls hk rfl rfl rfl (e_assign hk rfl _) fun a hk => ?_
        refine lnil (hK9 _ _ ?_)
        refine wp_ret ?_
        first
          | exact ret3 hk rfl rfl rfl rfl ⟨gres (getI_big h8) (by omega), hB⟩
          | (simp only [then_ret]; exact ret3 hk rfl rfl rfl rfl ⟨gres (getI_big h8) (by omega), hB⟩)
          | (simp only [blk_ret, then_ret]; exact ret3 hk rfl rfl rfl rfl ⟨gres (getI_big h8) (by omega), hB⟩)
      · have h8 : ¬ kB b > 8 := by have := of_decide_eq_false hb; omega
        refine wp_seq_k fun K10 hK10 => ?_
        refine wp_region_lit ?_
        refine ls hk rfl rfl rfl (e_move hk rfl _) fun a hk => ?_
        refine ls hk rfl rfl rfl (e_lenS hk rfl Tryd.underlying22 _) fun a hk => ?_
        refine ls hk rfl rfl rfl (e_move hk rfl _) fun a hk => ?_
        refine ls hk rfl rfl rfl (e_leq hk rfl rfl rfl _) fun a hk => ?_
        refine ls hk rfl rfl rfl (e_assign hk rfl _) fun a hk => ?_
        refine lnil (hK10 _ _ ?_)
        refine cdB hk rfl (fun hb => ?_) (fun hb => ?_)
        · have hrl : r.length < kB b := by have := of_decide_eq_true hb; omega
          refine wp_seq_k fun K11 hK11 => ?_
          refine wp_region_lit ?_
          refine ls hk rfl rfl rfl (e_assign hk rfl _) fun a hk => ?_
          refine ls hk rfl rfl rfl (e_assign hk rfl _) fun a hk => ?_
          refine ls hk rfl rfl rfl (e_assign hk rfl _) fun a hk => ?_
          refine lnil (hK11 _ _ ?_)
          refine wp_ret ?_
          first
            | exact ret3 hk rfl rfl rfl rfl ⟨gres (getI_more h8 hrl) (by omega), hB⟩
            | (simp only [then_ret]; exact ret3 hk rfl rfl rfl rfl ⟨gres (getI_more h8 hrl) (by omega), hB⟩)
            | (simp only [blk_ret, then_ret]; exact ret3 hk rfl rfl rfl rfl ⟨gres (getI_more h8 hrl) (by omega), hB⟩)
        · have hrl : ¬ r.length < kB b := by have := of_decide_eq_false hb; omega
          refine wp_seq_k fun K12 hK12 => ?_
          rcases Nat.eq_zero_or_pos (kB b) with hk0 | hk0
          · refine wp_region_lit ?_
            refine ls hk rfl rfl rfl (e_move hk rfl _) fun a hk => ?_
            refine ls hk rfl rfl rfl (e_gtr (b := false) hk rfl rfl (decide_eq_false (by omega)) _) fun a hk => ?_
            refine ls hk rfl rfl rfl (e_move hk rfl _) fun a hk => ?_
            refine lno hk rfl rfl rfl fun a hk => ?_
            refine lno hk rfl rfl rfl fun a hk => ?_
            refine lno hk rfl rfl rfl fun a hk => ?_
            refine lno hk rfl rfl rfl fun a hk => ?_
            refine lno hk rfl rfl rfl fun a hk => ?_
            refine lno hk rfl rfl rfl fun a hk => ?_
            refine ls hk rfl rfl rfl (e_pickF hk rfl rfl _) fun a hk => ?_
            refine ls hk rfl rfl rfl (e_assign hk rfl _) fun a hk => ?_
            refine lnil (hK12 _ _ ?_)
            refine cdF hk rfl ?_
            refine wp_skip (hK7 _ _ ?_)
            refine wp_seq_k fun K13 hK13 => ?_
            refine wp_region_lit ?_
            refine ls hk rfl rfl rfl (e_assign hk rfl _) fun a hk => ?_
            refine lnil (hK13 _ _ ?_)
            refine wp_seq_k fun K14 hK14 => ?_
            refine wp_seq_k fun K15 hK15 => ?_
            refine wp_region_lit ?_
            refine ls hk rfl rfl rfl (e_move hk rfl _) fun a hk => ?_
            refine ls hk rfl rfl rfl (e_move hk rfl _) fun a hk => ?_
            refine ls hk rfl rfl rfl (e_add (q := ((kB b + 1 : Nat) : Int)) hk rfl rfl (by rw [i64 (by omega) (by omega)]; omega) _) fun a hk => ?_
            refine ls hk rfl rfl rfl (e_slS hk rfl rfl rfl Tryd.underlying22 sz5 (by decide) (by omega) (by have := hR.2.1; omega) _) fun a hk => ?_
            have hRk := sub_mid (i := 1) (j := kB b + 1) hR (by omega) (by omega)
            rw [List.map_cons, List.take_succ_cons, List.drop_succ_cons, List.drop_zero, ← List.map_take] at hRk
            rw [Int.toNat_natCast, show (1 : Int).toNat = 1 from rfl, show kB b + 1 - 1 = kB b by omega] at hk
            rw [show kB b + 1 - 1 = kB b by omega] at hRk
            generalize (if c = 1 then some (⟨b0, o0, none⟩ : Addr) else (some (⟨b0, o0, none⟩ : Addr)).map (·.add (1 * 1))) = adk at hk hRk
            refine ls hk rfl rfl rfl (e_lenS hk rfl Tryd.underlying22 _) fun a hk => ?_
            refine ls hk rfl rfl rfl (e_move hk rfl _) fun a hk => ?_
            refine lnil (hK15 _ _ ?_)
            refine wp_block ?_
            refine loopN (fun n a w => ∃ j : Nat, n = (kB b) - j ∧ j ≤ (kB b) ∧ Kn a 71 [(5, B (flB b)), (6, I ((kB b : Nat) : Int)), (7, .int .u64 ((vR b r j : Nat) : Int)), (46, .slice adk (kB b) (c - 1)), (47, I ((kB b : Nat) : Int)), (48, I j)] ∧ (Ext w0 w)) ((kB b) - 0) ?_ fun n a w hI => ?_
            · exact ⟨0, rfl, by omega, hk.sub _ ⟨rfl, rfl, rfl, rfl, rfl, rfl, trivial⟩, hB⟩
            clear hk hB
            obtain ⟨j, rfl, hi_le, hk, hB⟩ := hI
            refine wp_seq_k fun K16 hK16 => ?_
            refine wp_region_lit ?_
            refine ls hk rfl rfl rfl (e_lss hk rfl rfl rfl _) fun a hk => ?_
            refine lnil (hK16 _ _ ?_)
            refine wp_seq_k fun K17 hK17 => ?_
            refine cdB hk rfl (fun hb => ?_) (fun hb => ?_)
            · have hjk : j < kB b := by have := of_decide_eq_true hb; omega
              have hv7 := vR_lt7 b r j (by omega)
              have hxj := (r.getD j 0 ^^^ flB b).toNat_lt
              have hvs := vR_succ b r j (by omega)
              obtain ⟨bk, ok, rfl, hck⟩ := (Rd.below hRk hB (Nat.le_refl _)).2.2 j (B (r.getD j 0)) (by simp [List.getD_eq_getElem?_getD, show j < r.length by omega, hjk])
              refine wp_skip (hK17 _ _ ?_)
              refine wp_seq_k fun K18 hK18 => ?_
              refine wp_block ?_
              refine wp_seq_k fun K19 hK19 => ?_
              refine wp_region_lit ?_
              refine ls hk rfl rfl rfl (e_idxS1 j hk rfl rfl Tryd.underlying22 sz5 rfl hjk _) fun a hk => ?_
              refine ls hk rfl rfl rfl (r_load1 hk rfl Tryd.underlying5 rfl hck) fun a hk => ?_
              refine ls hk rfl rfl rfl (e_assign hk rfl _) fun a hk => ?_
              refine lnil (hK19 _ _ ?_)
              refine wp_region_lit ?_
              refine ls hk rfl rfl rfl (e_move hk rfl _) fun a hk => ?_
              refine ls hk rfl rfl rfl (e_shl (q := ((vR b r j * 256 : Nat) : Int)) hk rfl rfl (by decide) (by rw [show ((vR b r j : Nat) : Int) * 2 ^ min (8 : Int).toNat IntKind.u64.bits = ((vR b r j * 256 : Nat) : Int) by rw [show min (8 : Int).toNat IntKind.u64.bits = 8 from rfl]; omega]; exact u64 (by omega) (by omega)) _) fun a hk => ?_
              refine ls hk rfl rfl rfl (e_move hk rfl _) fun a hk => ?_
              refine ls hk rfl rfl rfl (e_move hk rfl _) fun a hk => ?_
              refine ls hk rfl rfl rfl (e_xor hk rfl rfl (b_xor _ _) _) fun a hk => ?_
              refine ls hk rfl rfl rfl (e_conv (q := (((r.getD j 0 ^^^ flB b).toNat : Nat) : Int)) hk rfl Tryd.underlying5 Tryd.underlying32 (u64 (by omega) (by omega)) _) fun a hk => ?_
              refine ls hk rfl rfl rfl (e_or (q := ((vR b r (j + 1) : Nat) : Int)) hk rfl rfl (by rw [hvs]; exact u_or _ _ hv7 hxj) _) fun a hk => ?_
              refine ls hk rfl rfl rfl (e_assign hk rfl _) fun a hk => ?_
              refine lnil (hK18 _ _ ?_)
              refine wp_region_lit ?_
              refine ls hk rfl rfl rfl (e_add (q := ((j + 1 : Nat) : Int)) hk rfl rfl (by rw [i64 (by omega) (by omega)]; omega) _) fun a hk => ?_
              refine ls hk rfl rfl rfl (e_move hk rfl _) fun a hk => ?_
              refine lnil (show ∃ m : Nat, m < _ ∧ _ from ⟨(kB b) - (j + 1), by omega, j + 1, rfl, by omega, hk.sub _ ⟨rfl, rfl, rfl, rfl, rfl, rfl, trivial⟩, hB⟩)
            · have hjk : j = kB b := by have := of_decide_eq_false hb; omega
              subst hjk
              have hv8 := vR_lt8 b r (kB b) (by omega)
              refine wp_exit (hK14 _ _ ?_)
              refine wp_seq_k fun K20 hK20 => ?_
              refine wp_seq_k fun K21 hK21 => ?_
              refine wp_region_lit ?_
              refine ls hk rfl rfl rfl (e_move hk rfl _) fun a hk => ?_
              refine ls hk rfl rfl rfl (e_shr (q := ((vR b r (kB b) / 9223372036854775808 : Nat) : Int)) hk rfl rfl (by decide) (Int.ofNat_fdiv _ _).symm _) fun a hk => ?_
              refine ls hk rfl rfl rfl (e_gtr hk rfl rfl rfl _) fun a hk => ?_
              refine lnil (hK21 _ _ ?_)
              refine cdB hk rfl (fun hb => ?_) (fun hb => ?_)
              · have h63 : 9223372036854775808 ≤ vR b r (kB b) := by have := of_decide_eq_true hb; omega
                refine wp_seq_k fun K22 hK22 => ?_
                refine wp_region_lit ?_
                refine ls hk rfl rfl rfl (e_assign hk rfl _) fun a hk => ?_
                refine ls hk rfl rfl rfl (e_assign hk rfl _) fun a hk => ?_
                refine ls hk rfl rfl rfl (e_assign hk rfl _) fun a hk => ?_
                refine lnil (hK22 _ _ ?_)
                refine wp_ret ?_
                first
                  | exact ret3 hk rfl rfl rfl rfl ⟨gres (getI_wide h8 hrl h63) (by omega), hB⟩
                  | (simp only [then_ret]; exact ret3 hk rfl rfl rfl rfl ⟨gres (getI_wide h8 hrl h63) (by omega), hB⟩)
                  | (simp only [blk_ret, then_ret]; exact ret3 hk rfl rfl rfl rfl ⟨gres (getI_wide h8 hrl h63) (by omega), hB⟩)
              · have h63 : ¬ 9223372036854775808 ≤ vR b r (kB b) := by have := of_decide_eq_false hb; omega
                refine wp_skip (hK20 _ _ ?_)
                refine wp_seq_k fun K23 hK23 => ?_
                refine wp_seq_k fun K24 hK24 => ?_
                refine wp_region_lit ?_
                refine ls hk rfl rfl rfl (e_move hk rfl _) fun a hk => ?_
                refine ls hk rfl rfl rfl (e_gtr hk rfl rfl rfl _) fun a hk => ?_
                refine lnil (hK24 _ _ ?_)
                refine cdB hk rfl (fun hb => ?_) (fun hb => ?_)
                · have hlt : (b.toNat : Int) < 128 := by
                    apply Classical.byContradiction
                    intro hn
                    rw [flF hn] at hb
                    exact absurd hb (by decide)
                  have hcv : IntKind.i64.wrap ((18446744073709551615 - vR b r (kB b) : Nat) : Int) = gI b r := by rw [gI_T r hlt]; exact c_neg _ (by omega)
                  refine wp_region_lit ?_
                  refine ls hk rfl rfl rfl (e_move hk rfl _) fun a hk => ?_
                  refine ls hk rfl rfl rfl (e_cpl (q := ((18446744073709551615 - vR b r (kB b) : Nat) : Int)) hk rfl rfl (u_cpl _ (by omega)) _) fun a hk => ?_
                  refine ls hk rfl rfl rfl (e_assign hk rfl _) fun a hk => ?_
                  refine lnil (hK23 _ _ ?_)
                  refine wp_seq_k fun K25 hK25 => ?_
                  refine wp_region_lit ?_
                  refine ls hk rfl rfl rfl (e_move hk rfl _) fun a hk => ?_
                  refine ls hk rfl rfl rfl (e_conv (q := gI b r) hk rfl Tryd.underlying32 Tryd.underlying3 hcv _) fun a hk => ?_
                  refine ls hk rfl rfl rfl (e_move hk rfl _) fun a hk => ?_
                  refine ls hk rfl rfl rfl (e_add (q := ((kB b + 1 : Nat) : Int)) hk rfl rfl (by rw [i64 (by omega) (by omega)]; omega) _) fun a hk => ?_
                  refine ls hk rfl rfl rfl (e_assign hk rfl _) fun a hk => ?_
                  refine ls hk rfl rfl rfl (e_assign hk rfl _) fun a hk => ?_
                  refine ls hk rfl rfl rfl (e_assign hk rfl _) fun a hk => ?_
                  refine lnil (hK25 _ _ ?_)
                  refine wp_ret ?_
                  first
                    | exact ret3 hk rfl rfl rfl rfl ⟨gres (getI_ok h8 hrl (fun h => by omega) h63) (by omega), hB⟩
                    | (simp only [then_ret]; exact ret3 hk rfl rfl rfl rfl ⟨gres (getI_ok h8 hrl (fun h => by omega) h63) (by omega), hB⟩)
                    | (simp only [blk_ret, then_ret]; exact ret3 hk rfl rfl rfl rfl ⟨gres (getI_ok h8 hrl (fun h => by omega) h63) (by omega), hB⟩)
                · have hlt : ¬ (b.toNat : Int) < 128 := by
                    intro hn
                    rw [flT hn] at hb
                    exact absurd hb (by decide)
                  have hcv : IntKind.i64.wrap ((vR b r (kB b) : Nat) : Int) = gI b r := by rw [gI_F r hlt]; exact i64 (by omega) (by omega)
                  refine wp_skip (hK23 _ _ ?_)
                  refine wp_seq_k fun K26 hK26 => ?_
                  refine wp_region_lit ?_
                  refine ls hk rfl rfl rfl (e_move hk rfl _) fun a hk => ?_
                  refine ls hk rfl rfl rfl (e_conv (q := gI b r) hk rfl Tryd.underlying32 Tryd.underlying3 hcv _) fun a hk => ?_
                  refine ls hk rfl rfl rfl (e_move hk rfl _) fun a hk => ?_
                  refine ls hk rfl rfl rfl (e_add (q := ((kB b + 1 : Nat) : Int)) hk rfl rfl (by rw [i64 (by omega) (by omega)]; omega) _) fun a hk => ?_
                  refine ls hk rfl rfl rfl (e_assign hk rfl _) fun a hk => ?_
                  refine ls hk rfl rfl rfl (e_assign hk rfl _) fun a hk => ?_
                  refine ls hk rfl rfl rfl (e_assign hk rfl _) fun a hk => ?_
                  refine lnil (hK26 _ _ ?_)
                  refine wp_ret ?_
                  first
                    | exact ret3 hk rfl rfl rfl rfl ⟨gres (getI_ok h8 hrl (fun h => by omega) h63) (by omega), hB⟩
                    | (simp only [then_ret]; exact ret3 hk rfl rfl rfl rfl ⟨gres (getI_ok h8 hrl (fun h => by omega) h63) (by omega), hB⟩)
                    | (simp only [blk_ret, then_ret]; exact ret3 hk rfl rfl rfl rfl ⟨gres (getI_ok h8 hrl (fun h => by omega) h63) (by omega), hB⟩)
          · obtain ⟨b1, o1, he1, hc1⟩ := (Rd.below hR hB (Nat.le_refl _)).2.2 1 (B (r.getD 0 0)) (by simp [List.getD_eq_getElem?_getD, show 0 < r.length by omega])
            cases he1
            refine wp_region_lit ?_
            refine ls hk rfl rfl rfl (e_move hk rfl _) fun a hk => ?_
            refine ls hk rfl rfl rfl (e_gtr (b := true) hk rfl rfl (decide_eq_true (by omega)) _) fun a hk => ?_
            refine ls hk rfl rfl rfl (e_move hk rfl _) fun a hk => ?_
            refine ls hk rfl rfl rfl (e_move hk rfl _) fun a hk => ?_
            refine ls hk rfl rfl rfl (e_idxS1 1 hk rfl rfl Tryd.underlying22 sz5 rfl (by omega) _) fun a hk => ?_
            refine ls hk rfl rfl rfl (r_load1 hk rfl Tryd.underlying5 rfl hc1) fun a hk => ?_
            refine ls hk rfl rfl rfl (e_move hk rfl _) fun a hk => ?_
            refine ls hk rfl rfl rfl (e_xor hk rfl rfl (b_xor _ _) _) fun a hk => ?_
            refine ls hk rfl rfl rfl (e_eql hk rfl rfl rfl _) fun a hk => ?_
            refine ls hk rfl rfl rfl (e_pickT hk rfl rfl _) fun a hk => ?_
            refine ls hk rfl rfl rfl (e_assign hk rfl _) fun a hk => ?_
            refine lnil (hK12 _ _ ?_)
            refine cdB hk rfl (fun hb => ?_) (fun hb => ?_)
            · have hz : r.getD 0 0 ^^^ flB b = 0 := by
                have h := of_decide_eq_true hb
                exact UInt8.toNat.inj (by have e : (0 : UInt8).toNat = 0 := rfl; omega)
              refine wp_seq_k fun K27 hK27 => ?_
              refine wp_region_lit ?_
              refine ls hk rfl rfl rfl (e_assign hk rfl _) fun a hk => ?_
              refine ls hk rfl rfl rfl (e_assign hk rfl _) fun a hk => ?_
              refine ls hk rfl rfl rfl (e_assign hk rfl _) fun a hk => ?_
              refine lnil (hK27 _ _ ?_)
              refine wp_ret ?_
              first
                | exact ret3 hk rfl rfl rfl rfl ⟨gres (getI_zero h8 hrl ⟨hk0, hz⟩) (by omega), hB⟩
                | (simp only [then_ret]; exact ret3 hk rfl rfl rfl rfl ⟨gres (getI_zero h8 hrl ⟨hk0, hz⟩) (by omega), hB⟩)
                | (simp only [blk_ret, then_ret]; exact ret3 hk rfl rfl rfl rfl ⟨gres (getI_zero h8 hrl ⟨hk0, hz⟩) (by omega), hB⟩)
            · have hz : ¬ (0 < kB b ∧ r.getD 0 0 ^^^ flB b = 0) := fun h => by
                have h2 := of_decide_eq_false hb
                rw [h.2] at h2
                exact h2 rfl
              refine wp_skip (hK7 _ _ ?_)
              refine wp_seq_k fun K28 hK28 => ?_
              refine wp_region_lit ?_
              refine ls hk rfl rfl rfl (e_assign hk rfl _) fun a hk => ?_
              refine lnil (hK28 _ _ ?_)
              refine wp_seq_k fun K29 hK29 => ?_
              refine wp_seq_k fun K30 hK30 => ?_
              refine wp_region_lit ?_
              refine ls hk rfl rfl rfl (e_move hk rfl _) fun a hk => ?_
              refine ls hk rfl rfl rfl (e_move hk rfl _) fun a hk => ?_
              refine ls hk rfl rfl rfl (e_add (q := ((kB b + 1 : Nat) : Int)) hk rfl rfl (by rw [i64 (by omega) (by omega)]; omega) _) fun a hk => ?_
              refine ls hk rfl rfl rfl (e_slS hk rfl rfl rfl Tryd.underlying22 sz5 (by decide) (by omega) (by have := hR.2.1; omega) _) fun a hk => ?_
              have hRk := sub_mid (i := 1) (j := kB b + 1) hR (by omega) (by omega)
              rw [List.map_cons, List.take_succ_cons, List.drop_succ_cons, List.drop_zero, ← List.map_take] at hRk
              rw [Int.toNat_natCast, show (1 : Int).toNat = 1 from rfl, show kB b + 1 - 1 = kB b by omega] at hk
              rw [show kB b + 1 - 1 = kB b by omega] at hRk
              generalize (if c = 1 then some (⟨b0, o0, none⟩ : Addr) else (some (⟨b0, o0, none⟩ : Addr)).map (·.add (1 * 1))) = adk at hk hRk
              refine ls hk rfl rfl rfl (e_lenS hk rfl Tryd.underlying22 _) fun a hk => ?_
              refine ls hk rfl rfl rfl (e_move hk rfl _) fun a hk => ?_
              refine lnil (hK30 _ _ ?_)
              refine wp_block ?_
              refine loopN (fun n a w => ∃ j : Nat, n = (kB b) - j ∧ j ≤ (kB b) ∧ Kn a 71 [(5, B (flB b)), (6, I ((kB b : Nat) : Int)), (7, .int .u64 ((vR b r j : Nat) : Int)), (46, .slice adk (kB b) (c - 1)), (47, I ((kB b : Nat) : Int)), (48, I j)] ∧ (Ext w0 w)) ((kB b) - 0) ?_ fun n a w hI => ?_
              · exact ⟨0, rfl, by omega, hk.sub _ ⟨rfl, rfl, rfl, rfl, rfl, rfl, trivial⟩, hB⟩
              clear hk hB
              obtain ⟨j, rfl, hi_le, hk, hB⟩ := hI
              refine wp_seq_k fun K31 hK31 => ?_
              refine wp_region_lit ?_
              refine ls hk rfl rfl rfl (e_lss hk rfl rfl rfl _) fun a hk => ?_
              refine lnil (hK31 _ _ ?_)
              refine wp_seq_k fun K32 hK32 => ?_
              refine cdB hk rfl (fun hb => ?_) (fun hb => ?_)
              · have hjk : j < kB b := by have := of_decide_eq_true hb; omega
                have hv7 := vR_lt7 b r j (by omega)
                have hxj := (r.getD j 0 ^^^ flB b).toNat_lt
                have hvs := vR_succ b r j (by omega)
                obtain ⟨bk, ok, rfl, hck⟩ := (Rd.below hRk hB (Nat.le_refl _)).2.2 j (B (r.getD j 0)) (by simp [List.getD_eq_getElem?_getD, show j < r.length by omega, hjk])
                refine wp_skip (hK32 _ _ ?_)
                refine wp_seq_k fun K33 hK33 => ?_
                refine wp_block ?_
                refine wp_seq_k fun K34 hK34 => ?_
                refine wp_region_lit ?_
                refine ls hk rfl rfl rfl (e_idxS1 j hk rfl rfl Tryd.underlying22 sz5 rfl hjk _) fun a hk => ?_
                refine ls hk rfl rfl rfl (r_load1 hk rfl Tryd.underlying5 rfl hck) fun a hk => ?_
                refine ls hk rfl rfl rfl (e_assign hk rfl _) fun a hk => ?_
                refine lnil (hK34 _ _ ?_)
                refine wp_region_lit ?_
                refine ls hk rfl rfl rfl (e_move hk rfl _) fun a hk => ?_
                refine ls hk rfl rfl rfl (e_shl (q := ((vR b r j * 256 : Nat) : Int)) hk rfl rfl (by decide) (by rw [show ((vR b r j : Nat) : Int) * 2 ^ min (8 : Int).toNat IntKind.u64.bits = ((vR b r j * 256 : Nat) : Int) by rw [show min (8 : Int).toNat IntKind.u64.bits = 8 from rfl]; omega]; exact u64 (by omega) (by omega)) _) fun a hk => ?_
                refine ls hk rfl rfl rfl (e_move hk rfl _) fun a hk => ?_
                refine ls hk rfl rfl rfl (e_move hk rfl _) fun a hk => ?_
                refine ls hk rfl rfl rfl (e_xor hk rfl rfl (b_xor _ _) _) fun a hk => ?_
                refine ls hk rfl rfl rfl (e_conv (q := (((r.getD j 0 ^^^ flB b).toNat : Nat) : Int)) hk rfl Tryd.underlying5 Tryd.underlying32 (u64 (by omega) (by omega)) _) fun a hk => ?_
                refine ls hk rfl rfl rfl (e_or (q := ((vR b r (j + 1) : Nat) : Int)) hk rfl rfl (by rw [hvs]; exact u_or _ _ hv7 hxj) _) fun a hk => ?_
                refine ls hk rfl rfl rfl (e_assign hk rfl _) fun a hk => ?_
                refine lnil (hK33 _ _ ?_)
                refine wp_region_lit ?_
                refine ls hk rfl rfl rfl (e_add (q := ((j + 1 : Nat) : Int)) hk rfl rfl (by rw [i64 (by omega) (by omega)]; omega) _) fun a hk => ?_
                refine ls hk rfl rfl rfl (e_move hk rfl _) fun a hk => ?_
                refine lnil (show ∃ m : Nat, m < _ ∧ _ from ⟨(kB b) - (j + 1), by omega, j + 1, rfl, by omega, hk.sub _ ⟨rfl, rfl, rfl, rfl, rfl, rfl, trivial⟩, hB⟩)
              · have hjk : j = kB b := by have := of_decide_eq_false hb; omega
                subst hjk
                have hv8 := vR_lt8 b r (kB b) (by omega)
                refine wp_exit (hK29 _ _ ?_)
                refine wp_seq_k fun K35 hK35 => ?_
                refine wp_seq_k fun K36 hK36 => ?_
                refine wp_region_lit ?_
                refine ls hk rfl rfl rfl (e_move hk rfl _) fun a hk => ?_
                refine ls hk rfl rfl rfl (e_shr (q := ((vR b r (kB b) / 9223372036854775808 : Nat) : Int)) hk rfl rfl (by decide) (Int.ofNat_fdiv _ _).symm _) fun a hk => ?_
                refine ls hk rfl rfl rfl (e_gtr hk rfl rfl rfl _) fun a hk => ?_
                refine lnil (hK36 _ _ ?_)
                refine cdB hk rfl (fun hb => ?_) (fun hb => ?_)
                · have h63 : 9223372036854775808 ≤ vR b r (kB b) := by have := of_decide_eq_true hb; omega
                  refine wp_seq_k fun K37 hK37 => ?_
                  refine wp_region_lit ?_
                  refine ls hk rfl rfl rfl (e_assign hk rfl _) fun a hk => ?_
                  refine ls hk rfl rfl rfl (e_assign hk rfl _) fun a hk => ?_
                  refine ls hk rfl rfl rfl (e_assign hk rfl _) fun a hk => ?_
                  refine lnil (hK37 _ _ ?_)
                  refine wp_ret ?_
                  first
                    | exact ret3 hk rfl rfl rfl rfl ⟨gres (getI_wide h8 hrl h63) (by omega), hB⟩
                    | (simp only [then_ret]; exact ret3 hk rfl rfl rfl rfl ⟨gres (getI_wide h8 hrl h63) (by omega), hB⟩)
                    | (simp only [blk_ret, then_ret]; exact ret3 hk rfl rfl rfl rfl ⟨gres (getI_wide h8 hrl h63) (by omega), hB⟩)
                · have h63 : ¬ 9223372036854775808 ≤ vR b r (kB b) := by have := of_decide_eq_false hb; omega
                  refine wp_skip (hK35 _ _ ?_)
                  refine wp_seq_k fun K38 hK38 => ?_
                  refine wp_seq_k fun K39 hK39 => ?_
                  refine wp_region_lit ?_
                  refine ls hk rfl rfl rfl (e_move hk rfl _) fun a hk => ?_
                  refine ls hk rfl rfl rfl (e_gtr hk rfl rfl rfl _) fun a hk => ?_
                  refine lnil (hK39 _ _ ?_)
                  refine cdB hk rfl (fun hb => ?_) (fun hb => ?_)
                  · have hlt : (b.toNat : Int) < 128 := by
                      apply Classical.byContradiction
                      intro hn
                      rw [flF hn] at hb
                      exact absurd hb (by decide)
                    have hcv : IntKind.i64.wrap ((18446744073709551615 - vR b r (kB b) : Nat) : Int) = gI b r := by rw [gI_T r hlt]; exact c_neg _ (by omega)
                    refine wp_region_lit ?_
                    refine ls hk rfl rfl rfl (e_move hk rfl _) fun a hk => ?_
                    refine ls hk rfl rfl rfl (e_cpl (q := ((18446744073709551615 - vR b r (kB b) : Nat) : Int)) hk rfl rfl (u_cpl _ (by omega)) _) fun a hk => ?_
                    refine ls hk rfl rfl rfl (e_assign hk rfl _) fun a hk => ?_
                    refine lnil (hK38 _ _ ?_)
                    refine wp_seq_k fun K40 hK40 => ?_
                    refine wp_region_lit ?_
                    refine ls hk rfl rfl rfl (e_move hk rfl _) fun a hk => ?_
                    refine ls hk rfl rfl rfl (e_conv (q := gI b r) hk rfl Tryd.underlying32 Tryd.underlying3 hcv _) fun a hk => ?_
                    refine ls hk rfl rfl rfl (e_move hk rfl _) fun a hk => ?_
                    refine ls hk rfl rfl rfl (e_add (q := ((kB b + 1 : Nat) : Int)) hk rfl rfl (by rw [i64 (by omega) (by omega)]; omega) _) fun a hk => ?_
                    refine ls hk rfl rfl rfl (e_assign hk rfl _) fun a hk => ?_
                    refine ls hk rfl rfl rfl (e_assign hk rfl _) fun a hk => ?_
                    refine ls hk rfl rfl rfl (e_assign hk rfl _) fun a hk => ?_
                    refine lnil (hK40 _ _ ?_)
                    refine wp_ret ?_
                    first
                      | exact ret3 hk rfl rfl rfl rfl ⟨gres (getI_ok h8 hrl hz h63) (by omega), hB⟩
                      | (simp only [then_ret]; exact ret3 hk rfl rfl rfl rfl ⟨gres (getI_ok h8 hrl hz h63) (by omega), hB⟩)
                      | (simp only [blk_ret, then_ret]; exact ret3 hk rfl rfl rfl rfl ⟨gres (getI_ok h8 hrl hz h63) (by omega), hB⟩)
                  · have hlt : ¬ (b.toNat : Int) < 128 := by
                      intro hn
                      rw [flT hn] at hb
                      exact absurd hb (by decide)
                    have hcv : IntKind.i64.wrap ((vR b r (kB b) : Nat) : Int) = gI b r := by rw [gI_F r hlt]; exact i64 (by omega) (by omega)
                    refine wp_skip (hK38 _ _ ?_)
                    refine wp_seq_k fun K41 hK41 => ?_
                    refine wp_region_lit ?_
                    refine ls hk rfl rfl rfl (e_move hk rfl _) fun a hk => ?_
                    refine ls hk rfl rfl rfl (e_conv (q := gI b r) hk rfl Tryd.underlying32 Tryd.underlying3 hcv _) fun a hk => ?_
                    refine ls hk rfl rfl rfl (e_move hk rfl _) fun a hk => ?_
                    refine ls hk rfl rfl rfl (e_add (q := ((kB b + 1 : Nat) : Int)) hk rfl rfl (by rw [i64 (by omega) (by omega)]; omega) _) fun a hk => ?_
                    refine ls hk rfl rfl rfl (e_assign hk rfl _) fun a hk => ?_
                    refine ls hk rfl rfl rfl (e_assign hk rfl _) fun a hk => ?_
                    refine ls hk rfl rfl rfl (e_assign hk rfl _) fun a hk => ?_
                    refine lnil (hK41 _ _ ?_)
                    refine wp_ret ?_
                    first
                      | exact ret3 hk rfl rfl rfl rfl ⟨gres (getI_ok h8 hrl hz h63) (by omega), hB⟩
                      | (simp only [then_ret]; exact ret3 hk rfl rfl rfl rfl ⟨gres (getI_ok h8 hrl hz h63) (by omega), hB⟩)
                      | (simp only [blk_ret, then_ret]; exact ret3 hk rfl rfl rfl rfl ⟨gres (getI_ok h8 hrl hz h63) (by omega), hB⟩)
    refine wp_seq_k fun K42 hK42 => ?_
    refine wp_region_lit ?_
    refine ls hk rfl rfl rfl (e_move hk rfl _) fun a hk => ?_
    refine ls hk rfl rfl rfl (e_idxS1 0 hk rfl rfl Tryd.underlying22 sz5 rfl (by omega) _) fun a hk => ?_
    refine ls hk rfl rfl rfl (r_load1 hk rfl Tryd.underlying5 rfl hc0) fun a hk => ?_
    refine ls hk rfl rfl rfl (e_lss hk rfl rfl rfl _) fun a hk => ?_
    refine lnil (hK42 _ _ ?_)
    refine cdB hk rfl (fun hb => ?_) (fun hb => ?_)
    · have hlt0 : (b.toNat : Int) < 128 := of_decide_eq_true hb
      have hf := flT hlt0
      refine wp_region_lit ?_
      refine ls hk rfl rfl rfl (e_assign hk rfl _) fun a hk => ?_
      refine lnil (hJ5 _ _ ⟨(by rw [hf]; exact hk.sub _ ⟨rfl, rfl, trivial⟩), hB⟩)
    · have hlt0 : ¬ (b.toNat : Int) < 128 := of_decide_eq_false hb
      have hf := flF hlt0
      refine wp_skip (hJ5 _ _ ⟨(by rw [hf]; exact hk.sub _ ⟨rfl, rfl, trivial⟩), hB⟩)

set_option maxRecDepth 4000 in
set_option maxHeartbeats 1000000 in
theorem c87 (s : List UInt8) (ad : Option Addr) (c : Nat) (w0 : World) (hR : Rd w0 ad s.length c 1 (s.map B)) (hl : s.length ≤ 1000000000) : Calls Tryd.prog 87 #[.slice ad s.length c] w0 fun e w' => GRes s e ∧ Ext w0 w' := by
  rcases s with _ | ⟨b, r⟩
  · refine start 71 Tryd.func87 rfl rfl rfl fun a hk => ?_
    have hB : Ext w0 w0 := Below.refl _ _
    refine wp_seq_k fun K1 hK1 => ?_
    refine wp_region_lit ?_
    refine ls hk rfl rfl rfl (e_assign hk rfl _) fun a hk => ?_
    refine ls hk rfl rfl rfl (e_assign hk rfl _) fun a hk => ?_
    refine ls hk rfl rfl rfl (e_assign hk rfl _) fun a hk => ?_
    refine lnil (hK1 _ _ ?_)
    refine wp_seq_k fun K2 hK2 => ?_
    refine wp_seq_k fun K3 hK3 => ?_
    refine wp_region_lit ?_
    refine ls hk rfl rfl rfl (e_move hk rfl _) fun a hk => ?_
    refine ls hk rfl rfl rfl (e_lenS hk rfl Tryd.underlying22 _) fun a hk => ?_
    refine ls hk rfl rfl rfl (e_eql (b := true) hk rfl rfl rfl _) fun a hk => ?_
    refine lnil (hK3 _ _ ?_)
    refine cdT hk rfl ?_
    refine wp_seq_k fun K4 hK4 => ?_
    refine wp_region_lit ?_
    refine ls hk rfl rfl rfl (e_assign hk rfl _) fun a hk => ?_
    refine ls hk rfl rfl rfl (e_assign hk rfl _) fun a hk => ?_
    refine ls hk rfl rfl rfl (e_assign hk rfl _) fun a hk => ?_
    refine lnil (hK4 _ _ ?_)
    refine wp_ret ?_
    first
      | exact ret3 hk rfl rfl rfl rfl ⟨gres (getI_nil) (by omega), hB⟩
      | (simp only [then_ret]; exact ret3 hk rfl rfl rfl rfl ⟨gres (getI_nil) (by omega), hB⟩)
      | (simp only [blk_ret, then_ret]; exact ret3 hk rfl rfl rfl rfl ⟨gres (getI_nil) (by omega), hB⟩)
  · have hx0 := (b ^^^ flB b).toNat_lt
    have hb0 := b.toNat_lt
    have h128 := fl_ge b
    obtain ⟨b0, o0, rfl, hc0⟩ := hR.2.2 0 (B b) rfl
    have hsl : (b :: r).length = r.length + 1 := rfl
    refine start 71 Tryd.func87 rfl rfl rfl fun a hk => ?_
    have hB : Ext w0 w0 := Below.refl _ _
    refine wp_seq_k fun K1 hK1 => ?_
    refine wp_region_lit ?_
    refine ls hk rfl rfl rfl (e_assign hk rfl _) fun a hk => ?_
    refine ls hk rfl rfl rfl (e_assign hk rfl _) fun a hk => ?_
    refine ls hk rfl rfl rfl (e_assign hk rfl _) fun a hk => ?_
    refine lnil (hK1 _ _ ?_)
    refine wp_seq_k fun K2 hK2 => ?_
    refine wp_seq_k fun K3 hK3 => ?_
    refine wp_region_lit ?_
    refine ls hk rfl rfl rfl (e_move hk rfl _) fun a hk => ?_
    refine ls hk rfl rfl rfl (e_lenS hk rfl Tryd.underlying22 _) fun a hk => ?_
    refine ls hk rfl rfl rfl (e_eql (b := false) hk rfl rfl (decide_eq_false (by omega)) _) fun a hk => ?_
    refine lnil (hK3 _ _ ?_)
    refine cdF hk rfl ?_
    refine wp_skip (hK2 _ _ ?_)
    refine wp_seq_k fun K4 hK4 => ?_
    refine wp_region_lit ?_
    refine ls hk rfl rfl rfl (e_move hk rfl _) fun a hk => ?_
    refine ls hk rfl rfl rfl (e_idxS1 0 hk rfl rfl Tryd.underlying22 sz5 rfl (by omega) _) fun a hk => ?_
    refine ls hk rfl rfl rfl (r_load1 hk rfl Tryd.underlying5 rfl hc0) fun a hk => ?_
    refine ls hk rfl rfl rfl (e_conv (q := ((b.toNat : Nat) : Int)) hk rfl Tryd.underlying5 Tryd.underlying3 (i64 (by omega) (by omega)) _) fun a hk => ?_
    refine ls hk rfl rfl rfl (e_assign hk rfl _) fun a hk => ?_
    refine lnil (hK4 _ _ ?_)
    refine wp_seq_k fun K5 hK5 => ?_
    refine wp_seq_k fun K6 hK6 => ?_
    rcases (by omega : b.toNat < 119 ∨ 119 ≤ b.toNat) with h119 | h119
    · refine wp_region_lit ?_
      refine ls hk rfl rfl rfl (e_move hk rfl _) fun a hk => ?_
      refine ls hk rfl rfl rfl (e_lss (b := true) hk rfl rfl (decide_eq_true (by omega)) _) fun a hk => ?_
      refine ls hk rfl rfl rfl (e_move hk rfl _) fun a hk => ?_
      refine lno hk rfl rfl rfl fun a hk => ?_
      refine lno hk rfl rfl rfl fun a hk => ?_
      refine ls hk rfl rfl rfl (e_pickT hk rfl rfl _) fun a hk => ?_
      refine lnil (hK6 _ _ ?_)
      refine cdT hk rfl ?_
      refine wp_seq_k fun K7 hK7 => ?_
      refine wp_region_lit ?_
      refine ls hk rfl rfl rfl (e_assign hk rfl _) fun a hk => ?_
      refine ls hk rfl rfl rfl (e_assign hk rfl _) fun a hk => ?_
      refine ls hk rfl rfl rfl (e_assign hk rfl _) fun a hk => ?_
      refine lnil (hK7 _ _ ?_)
      refine wp_ret ?_
      first
        | exact ret3 hk rfl rfl rfl rfl ⟨gres (getI_big (by rw [kB_T (by omega)]; omega)) (by omega), hB⟩
        | (simp only [then_ret]; exact ret3 hk rfl rfl rfl rfl ⟨gres (getI_big (by rw [kB_T (by omega)]; omega)) (by omega), hB⟩)
        | (simp only [blk_ret, then_ret]; exact ret3 hk rfl rfl rfl rfl ⟨gres (getI_big (by rw [kB_T (by omega)]; omega)) (by omega), hB⟩)
    · refine wp_region_lit ?_
      refine ls hk rfl rfl rfl (e_move hk rfl _) fun a hk => ?_
      refine ls hk rfl rfl rfl (e_lss (b := false) hk rfl rfl (decide_eq_false (by omega)) _) fun a hk => ?_
      refine ls hk rfl rfl rfl (e_move hk rfl _) fun a hk => ?_
      refine ls hk rfl rfl rfl (e_move hk rfl _) fun a hk => ?_
      refine ls hk rfl rfl rfl (e_gtr hk rfl rfl rfl _) fun a hk => ?_
      refine ls hk rfl rfl rfl (e_pickF hk rfl rfl _) fun a hk => ?_
      refine lnil (hK6 _ _ ?_)
      refine cdB hk rfl (fun hb => ?_) (fun hb => ?_)
      · have h8 : kB b > 8 := by have := of_decide_eq_true hb; rw [kB_F (by omega)]; omega
        refine wp_seq_k fun K8 hK8 => ?_
        refine wp_region_lit ?_
        refine ls hk rfl rfl rfl (e_assign hk rfl _) fun a hk => ?_
        refine ls hk rfl rfl rfl (e_assign hk rfl _) fun a hk => ?_
        refine ls hk rfl rfl rfl (e_assign hk rfl _) fun a hk => ?_
        refine lnil (hK8 _ _ ?_)
        refine wp_ret ?_
        first
          | exact ret3 hk rfl rfl rfl rfl ⟨gres (getI_big h8) (by omega), hB⟩
          | (simp only [then_ret]; exact ret3 hk rfl rfl rfl rfl ⟨gres (getI_big h8) (by omega), hB⟩)
          | (simp only [blk_ret, then_ret]; exact ret3 hk rfl rfl rfl rfl ⟨gres (getI_big h8) (by omega), hB⟩)
      · have h8 : ¬ kB b > 8 := by
          have := of_decide_eq_false hb
          by_cases h : (b.toNat : Int) < 128
          · rw [kB_T h]; omega
          · rw [kB_F h]; omega
        refine wp_skip (hK5 _ _ ?_)
        refine wp_seq_k fun K9 hK9 => ?_
        refine wp_region_lit ?_
        refine ls hk rfl rfl rfl (e_move hk rfl _) fun a hk => ?_
        refine ls hk rfl rfl rfl (e_sub hk rfl rfl (i64 (by omega) (by omega)) _) fun a hk => ?_
        refine ls hk rfl rfl rfl (e_assign hk rfl _) fun a hk => ?_
        refine lnil (hK9 _ _ ?_)
        refine wp_seq_k fun K10 hK10 => ?_
        have hJ10 : ∀ (a : Act) (w : World), (Kn a 71 [(0, .slice (some ⟨b0, o0, none⟩) (b :: r).length c), (5, I ((b.toNat : Nat) : Int)), (6, I ((kB b : Nat) : Int))] ∧ (Ext w0 w)) → K10 a w := by
          clear hk hB
          intro a w ⟨hk, hB⟩
          refine hK10 _ _ ?_
          refine wp_seq_k fun K11 hK11 => ?_
          refine wp_seq_k fun K12 hK12 => ?_
          refine wp_region_lit ?_
          refine ls hk rfl rfl rfl (e_move hk rfl _) fun a hk => ?_
          refine ls hk rfl rfl rfl (e_lenS hk rfl Tryd.underlying22 _) fun a hk => ?_
          refine ls hk rfl rfl rfl (e_move hk rfl _) fun a hk => ?_
          refine ls hk rfl rfl rfl (e_add (q := ((kB b + 1 : Nat) : Int)) hk rfl rfl (by rw [i64 (by omega) (by omega)]; omega) _) fun a hk => ?_
          refine ls hk rfl rfl rfl (e_lss hk rfl rfl rfl _) fun a hk => ?_
          refine lnil (hK12 _ _ ?_)
          refine cdB hk rfl (fun hb => ?_) (fun hb => ?_)
          · have hrl : r.length < kB b := by have := of_decide_eq_true hb; omega
            refine wp_seq_k fun K13 hK13 => ?_
            refine wp_region_lit ?_
            refine ls hk rfl rfl rfl (e_assign hk rfl _) fun a hk => ?_
            refine ls hk rfl rfl rfl (e_assign hk rfl _) fun a hk => ?_
            refine ls hk rfl rfl rfl (e_assign hk rfl _) fun a hk => ?_
            refine lnil (hK13 _ _ ?_)
            refine wp_ret ?_
            first
              | exact ret3 hk rfl rfl rfl rfl ⟨gres (getI_more h8 hrl) (by omega), hB⟩
              | (simp only [then_ret]; exact ret3 hk rfl rfl rfl rfl ⟨gres (getI_more h8 hrl) (by omega), hB⟩)
              | (simp only [blk_ret, then_ret]; exact ret3 hk rfl rfl rfl rfl ⟨gres (getI_more h8 hrl) (by omega), hB⟩)
          · have hrl : ¬ r.length < kB b := by have := of_decide_eq_false hb; omega
            refine wp_skip (hK11 _ _ ?_)
            refine wp_seq_k fun K14 hK14 => ?_
            refine wp_region_lit ?_
            refine ls hk rfl rfl rfl (e_assign hk rfl _) fun a hk => ?_
            refine lnil (hK14 _ _ ?_)
            refine wp_seq_k fun K15 hK15 => ?_
            refine wp_seq_k fun K16 hK16 => ?_
            refine wp_region_lit ?_
            refine ls hk rfl rfl rfl (e_assign hk rfl _) fun a hk => ?_
            refine lnil (hK16 _ _ ?_)
            refine wp_block ?_
            refine loopN (fun n a w => ∃ j : Nat, n = (kB b) - j ∧ j ≤ (kB b) ∧ Kn a 71 [(0, .slice (some ⟨b0, o0, none⟩) (b :: r).length c), (5, I ((b.toNat : Nat) : Int)), (6, I ((kB b : Nat) : Int)), (7, I ((vR b r j : Nat) : Int)), (8, I ((j + 1 : Nat) : Int))] ∧ (Ext w0 w) ∧ (vR b r j < 9223372036854775808)) ((kB b) - 0) ?_ fun n a w hI => ?_
            · exact ⟨0, rfl, by omega, hk.sub _ ⟨rfl, rfl, rfl, rfl, rfl, trivial⟩, hB, (by simp [val])⟩
            clear hk hB
            obtain ⟨j, rfl, hi_le, hk, hB, hv⟩ := hI
            refine wp_seq_k fun K17 hK17 => ?_
            refine wp_seq_k fun K18 hK18 => ?_
            refine wp_region_lit ?_
            refine ls hk rfl rfl rfl (e_move hk rfl _) fun a hk => ?_
            refine ls hk rfl rfl rfl (e_move hk rfl _) fun a hk => ?_
            refine ls hk rfl rfl rfl (e_leq hk rfl rfl rfl _) fun a hk => ?_
            refine lnil (hK18 _ _ ?_)
            refine cdB hk rfl (fun hb => ?_) (fun hb => ?_)
            · have hjk : j < kB b := by have := of_decide_eq_true hb; omega
              have hvs := vR_succ b r j (by omega)
              have hxj := (r.getD j 0 ^^^ flB b).toNat_lt
              have hrj := (r.getD j 0).toNat_lt
              obtain ⟨bj, oj, hej, hcj⟩ := (Rd.below hR hB (Nat.le_refl _)).2.2 (j + 1) (B (r.getD j 0)) (by simp [List.getD_eq_getElem?_getD, show j < r.length by omega])
              cases hej
              refine wp_skip (hK17 _ _ ?_)
              refine wp_seq_k fun K19 hK19 => ?_
              refine wp_block ?_
              refine wp_seq_k fun K20 hK20 => ?_
              refine wp_region_lit ?_
              refine ls hk rfl rfl rfl (e_move hk rfl _) fun a hk => ?_
              refine ls hk rfl rfl rfl (e_move hk rfl _) fun a hk => ?_
              refine ls hk rfl rfl rfl (e_idxS1 (j + 1) hk rfl rfl Tryd.underlying22 sz5 rfl (by omega) _) fun a hk => ?_
              refine ls hk rfl rfl rfl (r_load1 hk rfl Tryd.underlying5 rfl hcj) fun a hk => ?_
              refine ls hk rfl rfl rfl (e_conv (q := (((r.getD j 0).toNat : Nat) : Int)) hk rfl Tryd.underlying5 Tryd.underlying3 (i64 (by omega) (by omega)) _) fun a hk => ?_
              refine ls hk rfl rfl rfl (e_assign hk rfl _) fun a hk => ?_
              refine lnil (hK20 _ _ ?_)
              refine wp_seq_k fun K21 hK21 => ?_
              have hJ21 : ∀ (a : Act) (w : World), (Kn a 71 [(0, .slice (some ⟨b0, o0, none⟩) (b :: r).length c), (5, I ((b.toNat : Nat) : Int)), (6, I ((kB b : Nat) : Int)), (7, I ((vR b r j : Nat) : Int)), (8, I ((j + 1 : Nat) : Int)), (9, I (((r.getD j 0 ^^^ flB b).toNat : Nat) : Int))] ∧ (Ext w0 w)) → K21 a w := by
                clear hk hB
                intro a w ⟨hk, hB⟩
                refine hK21 _ _ ?_
                refine wp_seq_k fun K22 hK22 => ?_
                refine wp_seq_k fun K23 hK23 => ?_
                refine wp_region_lit ?_
                refine ls hk rfl rfl rfl (e_move hk rfl _) fun a hk => ?_
                refine ls hk rfl rfl rfl (e_gtr hk rfl rfl rfl _) fun a hk => ?_
                refine lnil (hK23 _ _ ?_)
                refine cdB hk rfl (fun hb => ?_) (fun hb => ?_)
                · have h63 : 9223372036854775808 ≤ vR b r (kB b) := by
                    have h55 := of_decide_eq_true hb
                    have h6 : ¬ j ≤ 6 := fun h => by have := vR_lt6 b r j h; omega
                    have e : kB b = j + 1 := by omega
                    rw [e, hvs]; omega
                  refine wp_seq_k fun K24 hK24 => ?_
                  refine wp_region_lit ?_
                  refine ls hk rfl rfl rfl (e_assign hk rfl _) fun a hk => ?_
                  refine ls hk rfl rfl rfl (e_assign hk rfl _) fun a hk => ?_
                  refine ls hk rfl rfl rfl (e_assign hk rfl _) fun a hk => ?_
                  refine lnil (hK24 _ _ ?_)
                  refine wp_ret ?_
                  first
                    | exact ret3 hk rfl rfl rfl rfl ⟨gres (getI_wide h8 hrl h63) (by omega), hB⟩
                    | (simp only [then_ret]; exact ret3 hk rfl rfl rfl rfl ⟨gres (getI_wide h8 hrl h63) (by omega), hB⟩)
                    | (simp only [blk_ret, then_ret]; exact ret3 hk rfl rfl rfl rfl ⟨gres (getI_wide h8 hrl h63) (by omega), hB⟩)
                · have h55 : vR b r j ≤ 36028797018963967 := by have := of_decide_eq_false hb; omega
                  refine wp_skip (hK22 _ _ ?_)
                  refine wp_region_lit ?_
                  refine ls hk rfl rfl rfl (e_move hk rfl _) fun a hk => ?_
                  refine ls hk rfl rfl rfl (e_mul (q := ((256 * vR b r j : Nat) : Int)) hk rfl rfl (by rw [i64 (by omega) (by omega)]; omega) _) fun a hk => ?_
                  refine ls hk rfl rfl rfl (e_move hk rfl _) fun a hk => ?_
                  refine ls hk rfl rfl rfl (e_add (q := ((vR b r (j + 1) : Nat) : Int)) hk rfl rfl (by rw [i64 (by omega) (by omega), hvs]; omega) _) fun a hk => ?_
                  refine ls hk rfl rfl rfl (e_assign hk rfl _) fun a hk => ?_
                  refine lnil (hK19 _ _ ?_)
                  refine wp_region_lit ?_
                  refine ls hk rfl rfl rfl (e_move hk rfl _) fun a hk => ?_
                  refine ls hk rfl rfl rfl (e_add (q := ((j + 1 + 1 : Nat) : Int)) hk rfl rfl (by rw [i64 (by omega) (by omega)]; omega) _) fun a hk => ?_
                  refine ls hk rfl rfl rfl (e_assign hk rfl _) fun a hk => ?_
                  refine lnil (show ∃ m : Nat, m < _ ∧ _ from ⟨(kB b) - (j + 1), by omega, j + 1, rfl, by omega, hk.sub _ ⟨rfl, rfl, rfl, rfl, rfl, trivial⟩, hB, (by rw [hvs]; omega)⟩)
              refine wp_seq_k fun K25 hK25 => ?_
              refine wp_region_lit ?_
              refine ls hk rfl rfl rfl (e_move hk rfl _) fun a hk => ?_
              refine ls hk rfl rfl rfl (e_lss hk rfl rfl rfl _) fun a hk => ?_
              refine lnil (hK25 _ _ ?_)
              refine cdB hk rfl (fun hb => ?_) (fun hb => ?_)
              · have hlt : (b.toNat : Int) < 128 := of_decide_eq_true hb
                have hxe : (r.getD j 0 ^^^ flB b).toNat = 255 - (r.getD j 0).toNat := by rw [flT hlt]; exact xor255 _
                refine wp_region_lit ?_
                refine ls hk rfl rfl rfl (e_move hk rfl _) fun a hk => ?_
                refine ls hk rfl rfl rfl (e_sub (q := (((r.getD j 0 ^^^ flB b).toNat : Nat) : Int)) hk rfl rfl (by rw [i64 (by omega) (by omega)]; omega) _) fun a hk => ?_
                refine ls hk rfl rfl rfl (e_assign hk rfl _) fun a hk => ?_
                refine lnil (hJ21 _ _ ⟨hk.sub _ ⟨rfl, rfl, rfl, rfl, rfl, rfl, trivial⟩, hB⟩)
              · have hlt : ¬ (b.toNat : Int) < 128 := of_decide_eq_false hb
                have hxe : (r.getD j 0 ^^^ flB b).toNat = (r.getD j 0).toNat := by rw [flF hlt, UInt8.xor_zero]
                have hk := hk.lift 9 (v := I (((r.getD j 0 ^^^ flB b).toNat : Nat) : Int)) (by rw [hxe]; rfl)
                refine wp_skip (hJ21 _ _ ⟨hk.sub _ ⟨rfl, rfl, rfl, rfl, rfl, rfl, trivial⟩, hB⟩)
            · have hjk : j = kB b := by have := of_decide_eq_false hb; omega
              subst hjk
              have h63 : ¬ 9223372036854775808 ≤ vR b r (kB b) := by omega
              refine wp_exit (hK15 _ _ ?_)
              refine wp_seq_k fun K26 hK26 => ?_
              refine wp_region_lit ?_
              refine ls hk rfl rfl rfl (e_move hk rfl _) fun a hk => ?_
              refine ls hk rfl rfl rfl (e_assign hk rfl _) fun a hk => ?_
              refine lnil (hK26 _ _ ?_)
              refine wp_seq_k fun K27 hK27 => ?_
              have hJ27 : ∀ (a : Act) (w : World), (Kn a 71 [(0, .slice (some ⟨b0, o0, none⟩) (b :: r).length c), (6, I ((kB b : Nat) : Int)), (10, I (gI b r))] ∧ (Ext w0 w)) → K27 a w := by
                clear hk hB
                intro a w ⟨hk, hB⟩
                refine hK27 _ _ ?_
                refine wp_seq_k fun K28 hK28 => ?_
                refine wp_seq_k fun K29 hK29 => ?_
                refine wp_region_ok (fun _ => True) [0, 2, 0, 0, 0, 0, 2, 0] mixed ?_
                have hB := hB.drew
                refine d0 0 hk rfl (by kernel_rfl) rfl rfl rfl rfl (fun _ => e_move hk rfl _) fun a hk => ?_
                refine da 1 hk rfl (by kernel_rfl) rfl rfl (a_call hk rfl rfl (c_fn hk rfl ok118) (c118 (gI b r) _ (gI_64 h63).1 (gI_64 h63).2) ?_)
                rintro e w ⟨ad2, c2, rfl, hown2, hE⟩
                refine ⟨_, rfl, fun a hk => ?_⟩
                have hB := ext_trans hB hE
                obtain ⟨_, _, hv2, _, hR2⟩ := Rd.of_own hown2
                cases hv2
                clear hE
                refine d0 2 hk rfl (by kernel_rfl) rfl rfl rfl rfl (fun _ => e_move hk rfl _) fun a hk => ?_
                refine d0 3 hk rfl (by kernel_rfl) rfl rfl rfl rfl (fun _ => e_move hk rfl _) fun a hk => ?_
                refine d0 4 hk rfl (by kernel_rfl) rfl rfl rfl rfl (fun _ => e_add (q := ((kB b + 1 : Nat) : Int)) hk rfl rfl (by rw [i64 (by omega) (by omega)]; omega) _) fun a hk => ?_
                refine d0 5 hk rfl (by kernel_rfl) rfl rfl rfl rfl (fun _ => e_slSto hk rfl rfl Tryd.underlying22 sz5 (by omega) (by have := hR.2.1; omega) _) fun a hk => ?_
                have hRt := sub_to (k := kB b + 1) (Rd.below hR hB (Nat.le_refl _)) (by omega)
                rw [← List.map_take] at hRt
                have htl : ((b :: r).take (kB b + 1)).length = kB b + 1 := by simp; omega
                rw [Int.toNat_natCast] at hk
                generalize (if c = 0 then some (⟨b0, o0, none⟩ : Addr) else (some (⟨b0, o0, none⟩ : Addr)).map (·.add 0)) = adt at hk hRt
                have hk := hk.lift 65 (v := .slice adt ((b :: r).take (kB b + 1)).length c) (by rw [htl]; rfl)
                have hRt : Rd w adt ((b :: r).take (kB b + 1)).length c 1 (((b :: r).take (kB b + 1)).map B) := by rw [htl]; exact hRt
                refine da 6 hk rfl (by kernel_rfl) rfl rfl (a_call hk rfl rfl (c_fn hk rfl ok126) (c126 (encI (gI b r)) ((b :: r).take (kB b + 1)) ad2 adt c2 c _ hR2 hRt (by have := length_encI_le (gI b r); omega)) ?_)
                rintro e w ⟨rfl, hE⟩
                refine ⟨_, rfl, fun a hk => ?_⟩
                have hB := ext_trans hB hE
                clear hE
                refine d0 7 hk rfl (by kernel_rfl) rfl rfl rfl rfl (fun _ => e_not hk rfl _) fun a hk => ?_
                refine okFin (by kernel_rfl) (hK29 _ _ ?_)
                refine cdB hk rfl (fun hb => ?_) (fun hb => ?_)
                · have hz : ¬ ¬ (0 < kB b ∧ r.getD 0 0 ^^^ flB b = 0) := fun h => by
                    have h2 : decide (encI (gI b r) = (b :: r).take (kB b + 1)) = false := by simpa using hb
                    exact of_decide_eq_false h2 ((enc_iff h8 hrl h63).2 h)
                  refine wp_seq_k fun K30 hK30 => ?_
                  refine wp_region_lit ?_
                  refine ls hk rfl rfl rfl (e_assign hk rfl _) fun a hk => ?_
                  refine ls hk rfl rfl rfl (e_assign hk rfl _) fun a hk => ?_
                  refine ls hk rfl rfl rfl (e_assign hk rfl _) fun a hk => ?_
                  refine lnil (hK30 _ _ ?_)
                  refine wp_ret ?_
                  first
                    | exact ret3 hk rfl rfl rfl rfl ⟨gres (getI_zero h8 hrl (Classical.not_not.1 hz)) (by omega), hB⟩
                    | (simp only [then_ret]; exact ret3 hk rfl rfl rfl rfl ⟨gres (getI_zero h8 hrl (Classical.not_not.1 hz)) (by omega), hB⟩)
                    | (simp only [blk_ret, then_ret]; exact ret3 hk rfl rfl rfl rfl ⟨gres (getI_zero h8 hrl (Classical.not_not.1 hz)) (by omega), hB⟩)
                · have hz : ¬ (0 < kB b ∧ r.getD 0 0 ^^^ flB b = 0) := by
                    have h2 : decide (encI (gI b r) = (b :: r).take (kB b + 1)) = true := by simpa using hb
                    exact (enc_iff h8 hrl h63).1 (of_decide_eq_true h2)
                  refine wp_skip (hK28 _ _ ?_)
                  refine wp_seq_k fun K31 hK31 => ?_
                  refine wp_region_lit ?_
                  refine ls hk rfl rfl rfl (e_move hk rfl _) fun a hk => ?_
                  refine ls hk rfl rfl rfl (e_move hk rfl _) fun a hk => ?_
                  refine ls hk rfl rfl rfl (e_add (q := ((kB b + 1 : Nat) : Int)) hk rfl rfl (by rw [i64 (by omega) (by omega)]; omega) _) fun a hk => ?_
                  refine ls hk rfl rfl rfl (e_assign hk rfl _) fun a hk => ?_
                  refine ls hk rfl rfl rfl (e_assign hk rfl _) fun a hk => ?_
                  refine ls hk rfl rfl rfl (e_assign hk rfl _) fun a hk => ?_
                  refine lnil (hK31 _ _ ?_)
                  refine wp_ret ?_
                  first
                    | exact ret3 hk rfl rfl rfl rfl ⟨gres (getI_ok h8 hrl hz h63) (by omega), hB⟩
                    | (simp only [then_ret]; exact ret3 hk rfl rfl rfl rfl ⟨gres (getI_ok h8 hrl hz h63) (by omega), hB⟩)
                    | (simp only [blk_ret, then_ret]; exact ret3 hk rfl rfl rfl rfl ⟨gres (getI_ok h8 hrl hz h63) (by omega), hB⟩)
              refine wp_seq_k fun K32 hK32 => ?_
              refine wp_region_lit ?_
              refine ls hk rfl rfl rfl (e_move hk rfl _) fun a hk => ?_
              refine ls hk rfl rfl rfl (e_lss hk rfl rfl rfl _) fun a hk => ?_
              refine lnil (hK32 _ _ ?_)
              refine cdB hk rfl (fun hb => ?_) (fun hb => ?_)
              · have hlt : (b.toNat : Int) < 128 := of_decide_eq_true hb
                have hgi := gI_T r hlt
                refine wp_region_lit ?_
                refine ls hk rfl rfl rfl (e_move hk rfl _) fun a hk => ?_
                refine ls hk rfl rfl rfl (e_sub (q := gI b r) hk rfl rfl (by rw [i64 (by omega) (by omega), hgi]) _) fun a hk => ?_
                refine ls hk rfl rfl rfl (e_assign hk rfl _) fun a hk => ?_
                refine lnil (hJ27 _ _ ⟨hk.sub _ ⟨rfl, rfl, rfl, trivial⟩, hB⟩)
              · have hlt : ¬ (b.toNat : Int) < 128 := of_decide_eq_false hb
                have hgi := gI_F r hlt
                have hk := hk.lift 10 (v := I (gI b r)) (by rw [hgi]; rfl)
                refine wp_skip (hJ27 _ _ ⟨hk.sub _ ⟨rfl, rfl, rfl, trivial⟩, hB⟩)
        refine wp_seq_k fun K33 hK33 => ?_
        refine wp_region_lit ?_
        refine ls hk rfl rfl rfl (e_move hk rfl _) fun a hk => ?_
        refine ls hk rfl rfl rfl (e_lss hk rfl rfl rfl _) fun a hk => ?_
        refine lnil (hK33 _ _ ?_)
        refine cdB hk rfl (fun hb => ?_) (fun hb => ?_)
        · have hlt : (b.toNat : Int) < 128 := of_decide_eq_true hb
          have hkb := kB_T hlt
          refine wp_region_lit ?_
          refine ls hk rfl rfl rfl (e_move hk rfl _) fun a hk => ?_
          refine ls hk rfl rfl rfl (e_sub (q := ((kB b : Nat) : Int)) hk rfl rfl (by rw [i64 (by omega) (by omega)]; omega) _) fun a hk => ?_
          refine ls hk rfl rfl rfl (e_assign hk rfl _) fun a hk => ?_
          refine lnil (hJ10 _ _ ⟨hk.sub _ ⟨rfl, rfl, rfl, trivial⟩, hB⟩)
        · have hlt : ¬ (b.toNat : Int) < 128 := of_decide_eq_false hb
          have hkb := kB_F hlt
          have hk := hk.lift 6 (v := I ((kB b : Nat) : Int)) (by rw [hkb, show ((b.toNat - 128 : Nat) : Int) = (b.toNat : Int) - 128 by omega]; rfl)
          refine wp_skip (hJ10 _ _ ⟨hk.sub _ ⟨rfl, rfl, rfl, trivial⟩, hB⟩)

end Go.Proofs.YtidfbboalbchiaaDoor

namespace Go.Proofs.YtidfbboalbchiaaDoor
open Go Go.RowKit

/-- What stays: all but a set of blocks. -/
structure Frm (S : Nat → Prop) (w w' : World) : Prop where
  os : w'.os = w.os
  tape : w'.tape = w.tape
  output : w'.output = w.output
  size : w.heap.size ≤ w'.heap.size
  keep : ∀ k, k < w.heap.size → ¬ S k → w'.heap[k]? = w.heap[k]?
section
variable {S : Nat → Prop} {w0 w w' w'' : World}
theorem Frm.refl (S : Nat → Prop) (w : World) : Frm S w w := ⟨rfl, rfl, rfl, Nat.le_refl _, fun _ _ _ => rfl⟩
theorem Frm.trans (h : Frm S w w') (k : Frm S w' w'') : Frm S w w'' :=
  ⟨k.os.trans h.os, k.tape.trans h.tape, k.output.trans h.output, Nat.le_trans h.size k.size, fun i hi hm => (k.keep i (Nat.lt_of_lt_of_le hi h.size) hm).trans (h.keep i hi hm)⟩
theorem Frm.of_ext (h : Ext w w') : Frm S w w' := ⟨h.os, h.tape, h.output, h.size, fun k hk _ => h.block k hk⟩
theorem Frm.at_ {b : Nat} {o : Obj} (h : Frm S w w') (hm : ¬ S b) (hb : w.heap[b]? = some o) : w'.heap[b]? = some o := by rw [h.keep b (heap_lt hb) hm]; exact hb
theorem Frm.below {C : Nat} (h : Frm S w w') (hB : Below C w0 w) (hC : C ≤ w.heap.size) (hm : ∀ k, k < C → ¬ S k) : Below C w0 w' :=
  hB.trans ⟨h.os, h.tape, h.output, h.size, fun k hk => h.keep k (Nat.lt_of_lt_of_le hk hC) (hm k hk)⟩
theorem Frm.rd {ad : Option Addr} {n c sz : Nat} {xs : List Value} (h : Frm S w w') (hR : Rd w ad n c sz xs) (hm : ∀ b o, ad = some ⟨b, o, none⟩ → ¬ S b) : Rd w' ad n c sz xs :=
  ⟨hR.1, hR.2.1, fun i u hu => by
    obtain ⟨b, o, h1, h2⟩ := hR.2.2 i u hu
    refine ⟨b, o, h1, ?_⟩
    have hlt := World.block_lt_of_cell? w _ h2
    unfold World.cell? at h2 ⊢
    rw [h.keep b hlt (hm b o h1)]; exact h2⟩
theorem Frm.wrote {b : Nat} {o : Obj} (hW : Wrote w w' b o) (hb : S b) : Frm S w w' :=
  ⟨hW.os, hW.tape, hW.output, Nat.le_of_eq hW.size.symm, fun k _ hn => hW.other k (fun e => hn (e ▸ hb))⟩
theorem Frm.kept {v : Value} (hK : Kept w w' v) (hb : ∀ k, v.ownBlock = some k → S k) : Frm S w w' :=
  ⟨hK.os, hK.tape, hK.output, hK.size, fun k hk hn => hK.block k hk (fun e => hn (hb k e.symm))⟩
theorem Frm.own {base : Nat} {e : TypeId} {sz n : Nat} {v : Value} {xs : List Value} (h : Frm S w w') (ho : w.ownsRow base e sz v n xs) (hm : ∀ k, v.ownBlock = some k → ¬ S k) : w'.ownsRow base e sz v n xs := by
  refine ⟨ho.1, ?_⟩
  rcases ho.2 with hn | ⟨g, cap, cur, rfl, hb, hg, r⟩
  · exact .inl hn
  · exact .inr ⟨g, cap, cur, rfl, hb, h.at_ (hm g rfl) hg, r⟩
end
theorem frm_freeze {S : Nat → Prop} {a w : World} (h : Frm S a w) {p : Addr} (hp : S p.block) (n : Nat) : Frm S a (w.freeze p n) := by
  unfold World.freeze
  split
  · exact h
  · refine h.trans ⟨rfl, rfl, rfl, by simp, fun k hk hn => ?_⟩
    simp only [Array.getElem?_modify]
    rw [if_neg (fun e => hn (by rw [← e]; exact hp))]
/-- A Builder in block bb that holds the bytes bs in v. -/
structure Bld (p : Option Addr) (v : Value) (bb : Nat) (bs : List UInt8) (w : World) : Prop where
  at_ : w.heap[bb]? = some (.cells #[.pointer p, v] 113 (0, 0))
  own : w.ownsRow bb 5 1 v bs.length (bs.map B)
  ne : v.ownBlock ≠ some bb
  pt : p = none ∨ p = some ⟨bb, 0, none⟩
theorem Bld.ext {p : Option Addr} {v : Value} {bb : Nat} {bs : List UInt8} {w w' : World} (h : Bld p v bb bs w) (hE : Ext w w') : Bld p v bb bs w' := ⟨ext_at hE h.at_, own_ext h.own hE, h.ne, h.pt⟩
theorem Bld.frm {S : Nat → Prop} {p : Option Addr} {v : Value} {bb : Nat} {bs : List UInt8} {w w' : World} (h : Bld p v bb bs w) (hF : Frm S w w') (hm : ∀ k, bb ≤ k → ¬ S k) : Bld p v bb bs w' :=
  ⟨hF.at_ (hm bb (Nat.le_refl _)) h.at_, hF.own h.own fun k hk => hm k (h.own.lt k hk).1, h.ne, h.pt⟩
/-- A new variable is written. -/
theorem Bld.gw {p : Option Addr} {v : Value} {bb b : Nat} {bs : List UInt8} {w w1 w2 : World} {o o' : Obj} (h : Bld p v bb bs w) (G : Grew w w1 b o) (W : Wrote w1 w2 b o') : Bld p v bb bs w2 :=
  ⟨W.keep (G.ne h.at_) (ext_at G.ext h.at_), own_wrote (own_ext h.own G.ext) W (own_ne h.own G), h.ne, h.pt⟩
/-- A fresh Builder. -/
theorem bld_new {bb : Nat} {w : World} (h : w.heap[bb]? = some (.cells #[.pointer none, .slice none 0 0] 113 (0, 0))) : Bld none (.slice none 0 0) bb [] w :=
  ⟨h, ⟨rfl, .inl ⟨rfl, rfl⟩⟩, by simp [Value.ownBlock], .inl rfl⟩
section
variable {a : Act} {w : World} {N : Nat} {L : Fm} {dst : Option Tmp} {ty : TypeId} {pos : String} {af : Array Edge} {g : Option (Nat × Bool)} {x y : Operand} {bb o : Nat} {cs : Array Value} {fr : Nat × Nat}
theorem e_ptrT (hk : Kn a N L) (hx : ov L x = some (.pointer none)) (hy : ov L y = some (.pointer none)) (w : World) : Ev Tryd.prog ⟨dst, .binOp .eql 111 x y 111, ty, pos, af, g⟩ a w (.bool true) := by
  have h : ∀ d : Nat, (Op.equalIn (d + 1) 111 (.pointer none) (.pointer none)).run Tryd.prog w = .ok true w := fun d => by
    simp [Op.equalIn, run_underlying Tryd.underlying111]
  have h2 : (binOp .eql 111 (.pointer none) (.pointer none)).run Tryd.prog w = .ok (.bool true) w := by
    simp only [binOp]
    simp [Op.equal, Op.maxDepth, h 9999]
  simp only [Ev, execOp, hk.op hx, hk.op hy]
  simp [eqGuard, h2]
theorem e_ptrF {p : Addr} (hk : Kn a N L) (hx : ov L x = some (.pointer (some p))) (hy : ov L y = some (.pointer none)) (w : World) : Ev Tryd.prog ⟨dst, .binOp .eql 111 x y 111, ty, pos, af, g⟩ a w (.bool false) := by
  have h : ∀ d : Nat, (Op.equalIn (d + 1) 111 (.pointer (some p)) (.pointer none)).run Tryd.prog w = .ok false w := fun d => by
    simp [Op.equalIn, run_underlying Tryd.underlying111]
  have h2 : (binOp .eql 111 (.pointer (some p)) (.pointer none)).run Tryd.prog w = .ok (.bool false) w := by
    simp only [binOp]
    simp [Op.equal, Op.maxDepth, h 9999]
  simp only [Ev, execOp, hk.op hx, hk.op hy]
  simp [eqGuard, h2]
theorem info113 : ∃ j, Tryd.prog.info? 113 = some j ∧ j.size ≠ 0 := by
  have h := sz113
  cases hq : Tryd.prog.info? 113 with
  | none => rw [hq] at h; cases h
  | some j =>
    rw [hq] at h
    have h2 : j.size = 2 := by simpa using h
    exact ⟨j, rfl, by omega⟩
theorem e_ptrS {p : Addr} (hk : Kn a N L) (hx : ov L x = some (.pointer (some p))) (hy : ov L y = some (.pointer (some p))) (w : World) : Ev Tryd.prog ⟨dst, .binOp .neq 111 x y 111, ty, pos, af, g⟩ a w (.bool false) := by
  obtain ⟨j, hj, _⟩ := info113
  have h := Lib.run_neq_ptr_same (P := Tryd.prog) (w := w) p Tryd.underlying111 hj
  simp only [Ev, execOp, hk.op hx, hk.op hy]
  simp [eqGuard, h]
theorem r_toU (hk : Kn a N L) (hx : ov L x = some (.pointer (some ⟨bb, 0, none⟩))) (hb : w.heap[bb]? = some (.cells cs 113 fr)) (hc : 0 < cs.size) : Ev Tryd.prog ⟨dst, .convert 111 167 x, ty, pos, af, g⟩ a w (.pointer (some ⟨bb, 0, none⟩)) := by
  obtain ⟨j, hj, hjs⟩ := info113
  have h := Lib.run_to_unsafe (P := Tryd.prog) (w := w) (cells := cs.size) (e := 113) ⟨bb, 0, none⟩ Tryd.underlying111 Tryd.underlying167 hj hjs (by simp [World.shape?, hb]) hc
  simp [Ev, execOp, hk.op hx, h]
theorem lies113 : liesAt Tryd.prog Tryd.prog.depth 113 (2 / Tryd.prog.cellsOf 113) 0 113 1 = true := by kernel_rfl
theorem r_fromU (hk : Kn a N L) (hx : ov L x = some (.pointer (some ⟨bb, 0, none⟩))) (hb : w.heap[bb]? = some (.cells cs 113 fr)) (hc : cs.size = 2) : Ev Tryd.prog ⟨dst, .convert 167 111 x, ty, pos, af, g⟩ a w (.pointer (some ⟨bb, 0, none⟩)) := by
  obtain ⟨j, hj, hjs⟩ := info113
  have h := Lib.run_from_unsafe (P := Tryd.prog) (w := w) (cells := 2) (e := 113) ⟨bb, 0, none⟩ Tryd.underlying167 Tryd.underlying111 hj (by simp [World.shape?, hb, hc]) lies113
  simp [Ev, execOp, hk.op hx, h]
theorem e_noesc {v : Value} {ats : Array TypeId} (hk : Kn a N L) (hx : ov L x = some v) (w : World) : Ev Tryd.prog ⟨dst, .call { callee := .value (.func 133), args := #[x], argTypes := ats }, ty, pos, af, g⟩ a w v := by
  have h : (callFunc 133 #[v]).run Tryd.prog w = .ok (.value v) w := by
    rw [run_callFunc_extern Tryd.func133 (by kernel_rfl) (by kernel_rfl) (by kernel_rfl) (e := Extern.AbiNoEscape.same) (by kernel_rfl), Lib.run_noEscape]
    rfl
  have hf : a.eval (.func 133) = .func (.func 133) #[] #[] := rfl
  simp [Ev, execOp, resolve, hf, Deferred.ofValue, invoke, hk.op hx, h]
theorem e_sdata {ad : Addr} {n c : Nat} {ats : Array TypeId} (hk : Kn a N L) (hx : ov L x = some (.slice (some ad) n c)) (hc : c ≠ 0) (w : World) : Ev Tryd.prog ⟨dst, .call { callee := .builtin .unsafeSliceData, args := #[x], argTypes := ats }, ty, pos, af, g⟩ a w (.pointer (some ad)) := by
  have h := Lib.run_unsafeSliceData_row (P := Tryd.prog) (w := w) ats ty ad n c hc
  simp [Ev, execOp, resolve, invoke, builtin, hk.op hx, h]
theorem cells5 : Tryd.prog.cellsOf 5 = 1 := by kernel_rfl
theorem a_ustr {d b : Nat} {l : List UInt8} {K : Act → World → Prop} (hk : Kn a N L) (hN : Nat.blt d N = true) (hx : ov L x = some (.pointer (some ⟨b, 0, none⟩))) (hy : ov L y = some (I l.length)) (hb : w.heap[b]? = some (.cells cs 5 fr)) (h0 : l ≠ []) (hn : l.length ≤ cs.size) (h63 : l.length ≤ 9223372036854775807)
    (hc : ∀ j u, l[j]? = some u → w.cell? ⟨b, j, none⟩ = some (B u)) (hK : ∀ a', Kn a' N ((d, Str l) :: L) → K a' (w.freeze ⟨b, 0, none⟩ l.length)) : acts Tryd.prog ⟨some d, .call { callee := .builtin .unsafeString, args := #[x, y], argTypes := #[160, 3] }, ty, pos, af, g⟩ K a w := by
  have h := Lib.run_unsafeString_row (P := Tryd.prog) (w := w) 160 3 ty 5 Tryd.underlying160 cells5 b cs.size (by simp [World.shape?, hb]) l h0 hn h63 (fun j u hu => by rw [Addr.add_lit, Nat.zero_add]; exact hc j u hu)
  refine act_v hk rfl hN (v := Str l) ?_ hK
  simp [execOp, resolve, invoke, builtin, hk.op hx, hk.op hy, h]
end

set_option maxRecDepth 4000 in
set_option maxHeartbeats 1000000 in
theorem c124 (p : Option Addr) (v : Value) (bb : Nat) (w0 : World) (hp : p = none ∨ p = some ⟨bb, 0, none⟩) (h0 : w0.heap[bb]? = some (.cells #[.pointer p, v] 113 (0, 0))) :
    Calls Tryd.prog 124 #[.pointer (some ⟨bb, 0, none⟩)] w0 fun e w' => e = .returned (.tuple #[]) ∧ Frm (fun k => k = bb) w0 w' ∧ w'.heap[bb]? = some (.cells #[.pointer (some ⟨bb, 0, none⟩), v] 113 (0, 0)) := by
  rcases hp with rfl | rfl
  · refine start 20 Tryd.func124 rfl rfl rfl fun a hk => ?_
    refine wp_seq_k fun K1 hK1 => ?_
    refine wp_region_lit ?_
    refine ls hk rfl rfl rfl (e_move hk rfl _) fun a hk => ?_
    refine ls hk rfl rfl rfl (e_nil hk rfl _) fun a hk => ?_
    refine ls hk rfl rfl rfl (e_field (off := 0) hk rfl Tryd.underlying113 rfl rfl nz111 _) fun a hk => ?_
    refine ls hk rfl rfl rfl (r_load hk rfl Tryd.underlying111 rfl h0 rfl) fun a hk => ?_
    refine ls hk rfl rfl rfl (e_ptrT hk rfl rfl _) fun a hk => ?_
    refine lnil (hK1 _ _ ?_)
    refine cdT hk rfl ?_
    refine wp_region_lit ?_
    refine ls hk rfl rfl rfl (e_move hk rfl _) fun a hk => ?_
    refine ls hk rfl rfl rfl (e_move hk rfl _) fun a hk => ?_
    refine ls hk rfl rfl rfl (r_toU hk rfl h0 (Nat.zero_lt_succ 1)) fun a hk => ?_
    refine ls hk rfl rfl rfl (e_noesc hk rfl _) fun a hk => ?_
    refine ls hk rfl rfl rfl (r_fromU hk rfl h0 rfl) fun a hk => ?_
    refine ls hk rfl rfl rfl (e_nil hk rfl _) fun a hk => ?_
    refine ls hk rfl rfl rfl (e_field (off := 0) hk rfl Tryd.underlying113 rfl rfl nz111 _) fun a hk => ?_
    refine la hk rfl (a_store hk rfl rfl rfl sz111 h0 (Nat.zero_lt_succ 1) fun a w hk W => ?_)
    have h1 : w.heap[bb]? = some (.cells #[.pointer (some ⟨bb, 0, none⟩), v] 113 (0, 0)) := W.at_
    have hF : Frm (fun k => k = bb) w0 w := Frm.wrote W rfl
    refine lnil (ret0n hk rfl ⟨rfl, hF, h1⟩)
  · refine start 20 Tryd.func124 rfl rfl rfl fun a hk => ?_
    refine wp_seq_k fun K1 hK1 => ?_
    refine wp_region_lit ?_
    refine ls hk rfl rfl rfl (e_move hk rfl _) fun a hk => ?_
    refine ls hk rfl rfl rfl (e_nil hk rfl _) fun a hk => ?_
    refine ls hk rfl rfl rfl (e_field (off := 0) hk rfl Tryd.underlying113 rfl rfl nz111 _) fun a hk => ?_
    refine ls hk rfl rfl rfl (r_load hk rfl Tryd.underlying111 rfl h0 rfl) fun a hk => ?_
    refine ls hk rfl rfl rfl (e_ptrF hk rfl rfl _) fun a hk => ?_
    refine lnil (hK1 _ _ ?_)
    refine cdF hk rfl ?_
    refine wp_seq_k fun K2 hK2 => ?_
    refine wp_region_lit ?_
    refine ls hk rfl rfl rfl (e_move hk rfl _) fun a hk => ?_
    refine ls hk rfl rfl rfl (e_nil hk rfl _) fun a hk => ?_
    refine ls hk rfl rfl rfl (e_field (off := 0) hk rfl Tryd.underlying113 rfl rfl nz111 _) fun a hk => ?_
    refine ls hk rfl rfl rfl (r_load hk rfl Tryd.underlying111 rfl h0 rfl) fun a hk => ?_
    refine ls hk rfl rfl rfl (e_move hk rfl _) fun a hk => ?_
    refine ls hk rfl rfl rfl (e_ptrS hk rfl rfl _) fun a hk => ?_
    refine lnil (hK2 _ _ ?_)
    refine cdF hk rfl ?_
    refine wp_skip (ret0n hk rfl ⟨rfl, Frm.refl _ _, h0⟩)

theorem own_one {w : World} {base : Nat} {e : TypeId} {sz n : Nat} {v : Value} {xs : List Value} (h : w.ownsRow base e sz v n xs) : v.oneCell' = true := by
  rcases h.2 with ⟨rfl, _⟩ | ⟨g, cap, cur, rfl, _⟩ <;> rfl

set_option maxRecDepth 4000 in
set_option maxHeartbeats 1000000 in
theorem c77 (p : Option Addr) (v : Value) (bb : Nat) (bs xs : List UInt8) (ad : Option Addr) (c : Nat) (w0 : World) (hB : Bld p v bb bs w0) (hR : Rd w0 ad xs.length c 1 (xs.map B)) (hxb : ∀ b o, ad = some ⟨b, o, none⟩ → b ≠ bb) (hn : 0 < xs.length) (hl : bs.length + xs.length ≤ 1000000000) :
    Calls Tryd.prog 77 #[.pointer (some ⟨bb, 0, none⟩), .slice ad xs.length c] w0 fun e w' => ∃ v', e = .returned (.tuple #[I xs.length, .nilIface]) ∧ Bld (some ⟨bb, 0, none⟩) v' bb (bs ++ xs) w' ∧ Frm (fun k => k = bb ∨ v.ownBlock = some k) w0 w' ∧ ∀ k, v'.ownBlock = some k → v.ownBlock = some k ∨ w0.heap.size ≤ k := by
  refine start 19 Tryd.func77 rfl rfl rfl fun a hk => ?_
  refine wp_seq_k fun K1 hK1 => ?_
  refine wp_region_lit ?_
  refine ls hk rfl rfl rfl (e_assign hk rfl _) fun a hk => ?_
  refine ls hk rfl rfl rfl (e_assign hk rfl _) fun a hk => ?_
  refine lnil (hK1 _ _ ?_)
  refine wp_seq_k fun K2 hK2 => ?_
  obtain ⟨x0, hx0⟩ : ∃ x0, xs[0]? = some x0 := ⟨_, List.getElem?_eq_getElem hn⟩
  obtain ⟨b0, o0, he0, _⟩ := hR.2.2 0 (B x0) (by rw [List.getElem?_map, hx0]; rfl)
  subst he0
  have hnb := hxb b0 o0 rfl
  refine wp_region_lit ?_
  refine ls hk rfl rfl rfl (e_move hk rfl _) fun a hk => ?_
  refine la hk rfl (a_call hk rfl rfl (c_fn hk rfl ok124) (c124 p v bb _ hB.pt hB.at_) ?_)
  rintro e w ⟨rfl, hF1, h1⟩
  refine ⟨_, rfl, fun a hk => ?_⟩
  have hown := hF1.own hB.own (fun k hk e => hB.ne (e ▸ hk))
  have hR1 := hF1.rd hR (fun b o e => by cases e; exact hnb)
  have hmn := hB.own.lt
  refine lnil (hK2 _ _ ?_)
  refine wp_seq_k fun K3 hK3 => ?_
  refine wp_region_lit ?_
  refine ls hk rfl rfl rfl (e_move hk rfl _) fun a hk => ?_
  refine ls hk rfl rfl rfl (e_move hk rfl _) fun a hk => ?_
  refine ls hk rfl rfl rfl (e_nil hk rfl _) fun a hk => ?_
  refine ls hk rfl rfl rfl (e_field (off := 1) hk rfl Tryd.underlying113 rfl rfl nz22 _) fun a hk => ?_
  refine ls hk rfl rfl rfl (r_load hk rfl Tryd.underlying22 rfl h1 rfl) fun a hk => ?_
  refine ls hk rfl rfl rfl (e_move hk rfl _) fun a hk => ?_
  refine la hk rfl (a_app2 (news := xs.map B) hk rfl rfl hown rfl hR1 (bytes_one xs) Tryd.underlying22 el5 rfl (by decide) (by omega) (by omega) hn (Nat.le_of_lt (heap_lt h1)) fun a w v2 hk hown2 hKp hloc => ?_)
  have h2 := kept_at hKp hown hB.ne h1
  have hF2 : Frm (fun k => k = bb ∨ v.ownBlock = some k) w0 w := Frm.trans ⟨hF1.os, hF1.tape, hF1.output, hF1.size, fun k hk hn => hF1.keep k hk (fun e => hn (.inl e))⟩ (Frm.kept hKp fun k e => .inr e)
  have hlt1 := heap_lt h1
  have hne2 : v2.ownBlock ≠ some bb := fun e => (hloc bb e).elim hB.ne (fun h => by omega)
  refine ls hk rfl rfl rfl (e_nil hk rfl _) fun a hk => ?_
  refine ls hk rfl rfl rfl (e_field (off := 1) hk rfl Tryd.underlying113 rfl rfl nz22 _) fun a hk => ?_
  refine la hk rfl (a_store hk rfl rfl (by first | rfl | exact own_one hown2) sz22 h2 (Nat.lt_succ_self 1) fun a w hk W => ?_)
  have h3 : w.heap[bb]? = some (.cells #[.pointer (some ⟨bb, 0, none⟩), v2] 113 (0, 0)) := W.at_
  have hF3 := hF2.trans (Frm.wrote W (.inl rfl))
  have hown3 := own_wrote hown2 W hne2
  rw [← List.map_append] at hown3
  refine lnil (hK3 _ _ ?_)
  refine wp_seq_k fun K4 hK4 => ?_
  refine wp_region_lit ?_
  refine ls hk rfl rfl rfl (e_move hk rfl _) fun a hk => ?_
  refine ls hk rfl rfl rfl (e_lenS hk rfl Tryd.underlying22 _) fun a hk => ?_
  refine ls hk rfl rfl rfl (e_assign hk rfl _) fun a hk => ?_
  refine ls hk rfl rfl rfl (e_assign hk rfl _) fun a hk => ?_
  refine lnil (hK4 _ _ ?_)
  refine wp_ret ?_
  exact ret2 hk rfl rfl rfl ⟨_, rfl, ⟨h3, by rw [List.length_append]; exact hown3, hne2, .inr rfl⟩, hF3, fun k hk => (hloc k hk).imp id fun h => Nat.le_trans hF1.size h⟩

set_option maxRecDepth 4000 in
set_option maxHeartbeats 1000000 in
theorem c81 (p : Option Addr) (v : Value) (bb : Nat) (bs : List UInt8) (w0 : World) (hB : Bld p v bb bs w0) (hl0 : bs.length ≠ 0) :
    Calls Tryd.prog 81 #[.pointer (some ⟨bb, 0, none⟩)] w0 fun e w' => e = .returned (Str bs) ∧ Frm (fun k => v.ownBlock = some k) w0 w' := by
  refine start 14 Tryd.func81 rfl rfl rfl fun a hk => ?_
  refine wp_seq_k fun K1 hK1 => ?_
  refine wp_region_lit ?_
  refine ls hk rfl rfl rfl (e_assign hk rfl _) fun a hk => ?_
  refine lnil (hK1 _ _ ?_)
  refine wp_seq_k fun K2 hK2 => ?_
  obtain ⟨gb, cap, cur, rfl, hbg, hgg, hnc, hcm, hcs, htk⟩ : ∃ gb cap cur, v = .slice (some ⟨gb, 0, none⟩) bs.length cap ∧ bb ≤ gb ∧ w0.heap[gb]? = some (.cells cur 5 (0, 0)) ∧ bs.length ≤ cap ∧ cap ≤ maxLen ∧ cur.size = cap * 1 ∧ cur.toList.take (bs.length * 1) = bs.map B := by
    rcases hB.own.2 with ⟨_, hz⟩ | ⟨g, cap, cur, hv, r⟩
    · exact absurd hz hl0
    · exact ⟨g, cap, cur, hv, r⟩
  have h1 := hB.at_
  refine wp_region_ok (fun _ => True) [0, 0, 0, 1, 0, 0, 0, 0, 1, 0, 2, 0] mixed ?_
  have h1 := ext_at (ext_drew w0) h1
  have hgg := ext_at (ext_drew w0) hgg
  refine d0 0 hk rfl (by kernel_rfl) rfl rfl rfl rfl (fun _ => e_move hk rfl _) fun a hk => ?_
  refine d0 1 hk rfl (by kernel_rfl) rfl rfl rfl rfl (fun _ => e_nil hk rfl _) fun a hk => ?_
  refine d0 2 hk rfl (by kernel_rfl) rfl rfl rfl rfl (fun _ => e_field (off := 1) hk rfl Tryd.underlying113 rfl rfl nz22 _) fun a hk => ?_
  refine d1 3 hk rfl (by kernel_rfl) rfl rfl rfl rfl (r_load hk rfl Tryd.underlying22 rfl h1 rfl) fun a hk => ?_
  refine d0 4 hk rfl (by kernel_rfl) rfl rfl rfl rfl (fun _ => e_sdata hk rfl (by omega) _) fun a hk => ?_
  refine d0 5 hk rfl (by kernel_rfl) rfl rfl rfl rfl (fun _ => e_move hk rfl _) fun a hk => ?_
  refine d0 6 hk rfl (by kernel_rfl) rfl rfl rfl rfl (fun _ => e_nil hk rfl _) fun a hk => ?_
  refine d0 7 hk rfl (by kernel_rfl) rfl rfl rfl rfl (fun _ => e_field (off := 1) hk rfl Tryd.underlying113 rfl rfl nz22 _) fun a hk => ?_
  refine d1 8 hk rfl (by kernel_rfl) rfl rfl rfl rfl (r_load hk rfl Tryd.underlying22 rfl h1 rfl) fun a hk => ?_
  refine d0 9 hk rfl (by kernel_rfl) rfl rfl rfl rfl (fun _ => e_lenS hk rfl Tryd.underlying22 _) fun a hk => ?_
  refine da 10 hk rfl (by kernel_rfl) rfl rfl (a_ustr (l := bs) hk rfl rfl rfl hgg (fun e => hl0 (by rw [e]; rfl)) (by omega) (by unfold maxLen at hcm; omega) (fun j u hu => by
    rw [cell_of_row _ gb j cur 5 (0, 0) hgg]
    have h := congrArg (·[j]?) htk
    simp only [List.getElem?_take, List.getElem?_map, hu] at h
    have hj := (List.getElem?_eq_some_iff.1 hu).1
    rw [if_pos (by omega)] at h
    simpa using h) fun a hk => ?_)
  refine d0 11 hk rfl (by kernel_rfl) rfl rfl rfl rfl (fun _ => e_assign hk rfl _) fun a hk => ?_
  refine okFin (by kernel_rfl) (hK2 _ _ ?_)
  refine wp_ret ?_
  exact ret1 hk rfl rfl ⟨rfl, frm_freeze (Frm.of_ext (ext_drew w0)) (p := ⟨gb, 0, none⟩) (by simp [Value.ownBlock]) _⟩

end Go.Proofs.YtidfbboalbchiaaDoor

namespace Go.Proofs.YtidfbboalbchiaaDoor
open Go Go.RowKit

theorem flatF_succ (F : Nat → List UInt8) (i : Nat) : ((List.range i).map F).flatten ++ F i = ((List.range (i + 1)).map F).flatten := by simp [List.range_succ]
theorem flatF_len (F : Nat → List UInt8) (h : ∀ c, (F c).length = 16) (i : Nat) : (((List.range i).map F).flatten).length = 16 * i := by
  have := length_parts ((List.range i).map F) (by intro d hd; obtain ⟨c, _, rfl⟩ := List.mem_map.1 hd; exact h c)
  simpa using this

set_option maxRecDepth 4000 in
set_option maxHeartbeats 1000000 in
theorem c84 (fid : FuncId) (hok : callOk Tryd.prog fid = true) (cap : List Value) (F : Nat → List UInt8) (hF16 : ∀ c, (F c).length = 16) (w0 : World) (hG : GH w0)
    (hval : ∀ c, c < 68 → ∀ w, Ext w0 w → Calls Tryd.prog fid ([] ++ [I (c : Nat)] ++ cap).toArray w fun e w' => e = .returned (D (F c)) ∧ Ext w w') :
    Calls Tryd.prog 84 #[.func (.func fid) #[] cap.toArray] w0 fun e w' => e = .returned (D (leafV F)) ∧ Ext w0 w' := by
  refine start 23 Tryd.func84 rfl rfl rfl fun a hk => ?_
  have hB : Ext w0 w0 := Below.refl _ _
  refine wp_seq_k fun K1 hK1 => ?_
  refine wp_region_lit ?_
  refine la hk rfl (a_alloc hk rfl zr44 fun a w b2 hk G => ?_)
  have hg_b2 : w0.heap.size ≤ b2 := Nat.le_trans hB.size G.ge
  have hB := ext_trans hB G.ext
  have h_b2 := G.at_
  clear G
  refine lnil (hK1 _ _ ?_)
  refine wp_seq_k fun K2 hK2 => ?_
  refine wp_region_lit ?_
  refine la hk rfl (a_alloc hk rfl zr113 fun a w b3 hk G => ?_)
  have n_b2_b3 : b2 ≠ b3 := G.ne h_b2
  have hg_b3 : w0.heap.size ≤ b3 := Nat.le_trans hB.size G.ge
  have h_b2 := ext_at G.ext h_b2
  have hB := ext_trans hB G.ext
  have h_b3 := G.at_
  clear G
  refine lnil (hK2 _ _ ?_)
  refine wp_seq_k fun K3 hK3 => ?_
  refine wp_seq_k fun K4 hK4 => ?_
  have hBl := bld_new (bb := b3) h_b3
  obtain ⟨Z2, hZ2, hZs⟩ : ∃ Z : Array Value, (Value.agg (List.replicate 16 (Value.int .u8 0)).toArray).cells = Z ∧ Z.size = 16 := ⟨_, rfl, rfl⟩
  rw [hZ2] at h_b2
  refine wp_region_lit ?_
  refine ls hk rfl rfl rfl (e_move hk rfl _) fun a hk => ?_
  refine lnil (hK4 _ _ ?_)
  refine wp_block ?_
  refine loopN (fun n a w => ∃ i : Nat, ∃ (p : Option Addr) (v : Value), n = 68 - i ∧ i ≤ 68 ∧ Kn a 23 [(0, .func (.func fid) #[] cap.toArray), (2, .pointer (some ⟨b2, 0, none⟩)), (3, .pointer (some ⟨b3, 0, none⟩)), (7, I i)] ∧ (Ext w0 w) ∧ (w.heap[b2]? = some (.cells Z2 44 (0, 0))) ∧ (Bld p v b3 (((List.range (i)).map F).flatten) w) ∧ (v.ownBlock ≠ some b2)) (68 - 0) ?_ fun n a w hI => ?_
  · exact ⟨0, none, .slice none 0 0, rfl, by omega, hk.sub _ ⟨rfl, rfl, rfl, rfl, trivial⟩, hB, h_b2, hBl, (by simp [Value.ownBlock])⟩
  clear hk hB h_b2
  obtain ⟨i, p, v, rfl, hi_le, hk, hB, h_b2, hBl, k2⟩ := hI
  refine wp_seq_k fun K5 hK5 => ?_
  refine wp_region_lit ?_
  refine ls hk rfl rfl rfl (e_lss hk rfl rfl rfl _) fun a hk => ?_
  refine lnil (hK5 _ _ ?_)
  refine wp_seq_k fun K6 hK6 => ?_
  refine cdB hk rfl (fun hb => ?_) (fun hb => ?_)
  · have hi68 : i < 68 := by have := of_decide_eq_true hb; omega
    have hfl := flatF_len F hF16 i
    have hf16 := hF16 i
    refine wp_skip (hK6 _ _ ?_)
    refine wp_seq_k fun K7 hK7 => ?_
    refine wp_block ?_
    refine wp_seq_k fun K8 hK8 => ?_
    refine wp_region_lit ?_
    refine ls hk rfl rfl rfl (e_move hk rfl _) fun a hk => ?_
    refine ls hk rfl rfl rfl (e_assign hk rfl _) fun a hk => ?_
    refine lnil (hK8 _ _ ?_)
    refine wp_seq_k fun K9 hK9 => ?_
    refine wp_region_lit ?_
    refine ls hk rfl rfl rfl (e_move hk rfl _) fun a hk => ?_
    refine ls hk rfl rfl rfl (e_move hk rfl _) fun a hk => ?_
    refine la hk rfl (a_call hk rfl rfl (c_val (f := fid) (first := []) (captured := cap) hk rfl rfl hok) (hval i hi68 w hB) ?_)
    rintro e w ⟨rfl, hE⟩
    refine ⟨_, rfl, fun a hk => ?_⟩
    have h_b2 := ext_at hE h_b2
    have hB := ext_trans hB hE
    have hBl := hBl.ext hE
    clear hE
    refine la hk rfl (a_alloc hk rfl zr44 fun a w1 b5 hk G5 => ?_)
    refine la hk rfl (a_st44 (l := F i) hk rfl rfl (hF16 i) G5.at_ rfl fun a w hk W5 => ?_)
    have n53 : b5 ≠ b3 := Ne.symm (G5.ne hBl.at_)
    have hBl := hBl.gw G5 W5
    have h_b2 := W5.keep (G5.ne h_b2) (ext_at G5.ext h_b2)
    have hB := W5.below (ext_trans hB G5.ext) (Nat.le_trans hB.size G5.ge)
    have hR5 : Rd w (some ⟨b5, 0, none⟩) (F i).length 16 1 ((F i).map B) := by rw [hf16]; exact rd_dig W5.at_ hf16
    clear G5 W5
    refine lnil (hK9 _ _ ?_)
    refine wp_region_lit ?_
    refine ls hk rfl rfl rfl (e_slA hk rfl Tryd.underlying44 sz5 _) fun a hk => ?_
    have hk := hk.lift 13 (v := .slice (some ⟨b5, 0, none⟩) (F i).length 16) (by rw [hf16]; rfl)
    refine la hk rfl (a_call hk rfl rfl (c_fn hk rfl ok77) (c77 p v b3 (((List.range (i)).map F).flatten) (F i) _ _ _ hBl hR5 (fun b o e => by cases e; exact n53) (by omega) (by omega)) ?_)
    rintro e w ⟨v2, rfl, hBl2, hFm, hloc⟩
    refine ⟨_, rfl, fun a hk => ?_⟩
    have h_b2o := h_b2
    have h_b2 := hFm.at_ (by rintro (h | h); exact n_b2_b3 h; exact k2 h) h_b2
    have hB := hFm.below hB hB.size (fun k hk => by
      rintro (h | h)
      · omega
      · have := (hBl.own.lt k h).1; omega)
    have k2 : v2.ownBlock ≠ some b2 := fun e => (hloc b2 e).elim k2 (fun h => absurd (heap_lt h_b2o) (Nat.not_lt.2 h))
    rw [flatF_succ] at hBl2
    have hBl := hBl2
    clear hBl2 hFm hloc hR5 h_b2o
    refine lnil (hK7 _ _ ?_)
    refine wp_region_lit ?_
    refine ls hk rfl rfl rfl (e_add (q := ((i + 1 : Nat) : Int)) hk rfl rfl (by rw [i64 (by omega) (by omega)]; omega) _) fun a hk => ?_
    refine ls hk rfl rfl rfl (e_move hk rfl _) fun a hk => ?_
    refine lnil (show ∃ m : Nat, m < _ ∧ _ from ⟨68 - (i + 1), by omega, i + 1, _, _, rfl, by omega, hk.sub _ ⟨rfl, rfl, rfl, rfl, trivial⟩, hB, h_b2, hBl, k2⟩)
  · have hi68 : i = 68 := by have := of_decide_eq_false hb; omega
    subst hi68
    have hfl := flatF_len F hF16 68
    refine wp_exit (hK3 _ _ ?_)
    refine wp_seq_k fun K10 hK10 => ?_
    refine wp_region_lit ?_
    refine la hk rfl (a_call hk rfl rfl (c_fn hk rfl ok81) (c81 p v b3 (((List.range (68)).map F).flatten) _ hBl (by omega)) ?_)
    rintro e w ⟨rfl, hFm⟩
    refine ⟨_, rfl, fun a hk => ?_⟩
    have h_b2 := hFm.at_ k2 h_b2
    have hB := hFm.below hB hB.size (fun k hk h => by have := (hBl.own.lt k h).1; omega)
    clear hBl k2 hFm
    refine la hk rfl (a_lit (cells := #[Str (((List.range (68)).map F).flatten)]) (zv := .string ByteArray.empty) (sz := 1) (by_ := 16) hk rfl rfl Tryd.underlying27 el9 (by decide) (by decide) (lit1s _ rfl _) rfl fun a w bl hk G => ?_)
    have n_b2_bl : b2 ≠ bl := G.ne h_b2
    have hg_bl : w0.heap.size ≤ bl := Nat.le_trans hB.size G.ge
    have h_b2 := ext_at G.ext h_b2
    have hB := ext_trans hB G.ext
    have h_bl := G.at_
    clear G
    refine la hk rfl (a_call hk rfl rfl (c_fn hk rfl ok35) (c35 3 [((List.range (68)).map F).flatten] _ _ _ (rs_lit1 h_bl) (hG.ext hB) (by simp) (by intro y hy; rw [List.mem_singleton] at hy; subst hy; omega)) ?_)
    rintro e w ⟨rfl, hE⟩
    refine ⟨_, rfl, fun a hk => ?_⟩
    have h_b2 := ext_at hE h_b2
    have h_bl := ext_at hE h_bl
    have hB := ext_trans hB hE
    clear hE
    refine la hk rfl (a_alloc hk rfl zr44 fun a w b6 hk G => ?_)
    have n_b2_b6 : b2 ≠ b6 := G.ne h_b2
    have n_bl_b6 : bl ≠ b6 := G.ne h_bl
    have hg_b6 : w0.heap.size ≤ b6 := Nat.le_trans hB.size G.ge
    have h_b2 := ext_at G.ext h_b2
    have h_bl := ext_at G.ext h_bl
    have hB := ext_trans hB G.ext
    have h_b6 := G.at_
    clear G
    refine la hk rfl (a_st44 (l := ofD 3 [((List.range (68)).map F).flatten]) hk rfl rfl (by simp) h_b6 rfl fun a w hk W => ?_)
    have h_b2 := W.keep n_b2_b6 h_b2
    have h_bl := W.keep n_bl_b6 h_bl
    have hB := W.below hB hg_b6
    have h_b6 := W.at_
    clear W
    refine lnil (hK10 _ _ ?_)
    refine wp_seq_k fun K11 hK11 => ?_
    refine wp_region_lit ?_
    refine ls hk rfl rfl rfl (e_slA hk rfl Tryd.underlying44 sz5 _) fun a hk => ?_
    refine ls hk rfl rfl rfl (e_str hk rfl (rd_dig h_b6 (length_ofD _ _)) Tryd.underlying22 Tryd.underlying5 Tryd.underlying9) fun a hk => ?_
    refine la hk rfl (a_lit (cells := #[Str (ofD 3 [((List.range (68)).map F).flatten])]) (zv := .string ByteArray.empty) (sz := 1) (by_ := 16) hk rfl rfl Tryd.underlying27 el9 (by decide) (by decide) (lit1s _ rfl _) rfl fun a w bm hk G => ?_)
    have n_b2_bm : b2 ≠ bm := G.ne h_b2
    have n_bl_bm : bl ≠ bm := G.ne h_bl
    have n_b6_bm : b6 ≠ bm := G.ne h_b6
    have hg_bm : w0.heap.size ≤ bm := Nat.le_trans hB.size G.ge
    have h_b2 := ext_at G.ext h_b2
    have h_bl := ext_at G.ext h_bl
    have h_b6 := ext_at G.ext h_b6
    have hB := ext_trans hB G.ext
    have h_bm := G.at_
    clear G
    refine la hk rfl (a_call hk rfl rfl (c_fn hk rfl ok35) (c35 1 [ofD 3 [((List.range (68)).map F).flatten]] _ _ _ (rs_lit1 h_bm) (hG.ext hB) (by simp) (by simp)) ?_)
    rintro e w ⟨rfl, hE⟩
    refine ⟨_, rfl, fun a hk => ?_⟩
    have h_b2 := ext_at hE h_b2
    have h_bl := ext_at hE h_bl
    have h_b6 := ext_at hE h_b6
    have h_bm := ext_at hE h_bm
    have hB := ext_trans hB hE
    clear hE
    refine la hk rfl (a_st44 (l := leafV F) hk rfl rfl (by simp) h_b2 hZs fun a w hk W => ?_)
    have h_bl := W.keep (Ne.symm n_b2_bl) h_bl
    have h_b6 := W.keep (Ne.symm n_b2_b6) h_b6
    have h_bm := W.keep (Ne.symm n_b2_bm) h_bm
    have hB := W.below hB hg_b2
    have h_b2 := W.at_
    clear W
    refine lnil (hK11 _ _ ?_)
    refine wp_ret ?_
    exact ret44 (l := leafV F) hk rfl rfl h_b2 (by simp) ⟨rfl, hB⟩

set_option maxRecDepth 4000 in
set_option maxHeartbeats 1000000 in
theorem c123 (seed : List UInt8) (hs : seed.length ≤ 1000000) (k c : Nat) (hkl : k ≤ 1000000) (hcl : c ≤ 1000000) (bk bs : Nat) (w0 : World) (h_bk : w0.heap[bk]? = some (.cells #[I (k : Nat)] 3 (0, 0))) (h_bs : w0.heap[bs]? = some (.cells #[Str seed] 9 (0, 0))) (hG : GH w0) :
    Calls Tryd.prog 123 #[I (c : Nat), .pointer (some ⟨bk, 0, none⟩), .pointer (some ⟨bs, 0, none⟩)] w0 fun e w' => e = .returned (D (adv k c 0 3 (startS seed k c))) ∧ Ext w0 w' := by
  have hv16 := length_adv k c 0 3 (startS seed k c) (length_startS seed k c)
  refine start 12 Tryd.func123 rfl rfl rfl fun a hk => ?_
  have hB : Ext w0 w0 := Below.refl _ _
  refine wp_seq_k fun K1 hK1 => ?_
  refine wp_region_lit ?_
  refine la hk rfl (a_alloc hk rfl zr44 fun a w b4 hk G => ?_)
  have n_bk_b4 : bk ≠ b4 := G.ne h_bk
  have n_bs_b4 : bs ≠ b4 := G.ne h_bs
  have hg_b4 : w0.heap.size ≤ b4 := Nat.le_trans hB.size G.ge
  have h_bk := ext_at G.ext h_bk
  have h_bs := ext_at G.ext h_bs
  have hB := ext_trans hB G.ext
  have h_b4 := G.at_
  clear G
  refine lnil (hK1 _ _ ?_)
  refine wp_seq_k fun K2 hK2 => ?_
  refine wp_region_ok (fun w => w.heap[bk]? = some (.cells #[I (k : Nat)] 3 (0, 0))) [3, 0, 1, 1, 0, 4, 2, 2] mixed ?_
  have hB := hB.drew
  have h_bk := ext_at (ext_drew w) h_bk
  have h_bs := ext_at (ext_drew w) h_bs
  have h_b4 := ext_at (ext_drew w) h_b4
  have hS : (fun w => w.heap[bk]? = some (.cells #[I (k : Nat)] 3 (0, 0))) w.drew := h_bk
  refine d3 0 hk rfl (by kernel_rfl) rfl rfl rfl rfl hS (fun w hS => r_ld1 hk rfl Tryd.underlying3 rfl hS) fun a hk => ?_
  refine d0 1 hk rfl (by kernel_rfl) rfl rfl rfl rfl (fun _ => e_move hk rfl _) fun a hk => ?_
  refine d1 2 hk rfl (by kernel_rfl) rfl rfl rfl rfl (r_ld1 hk rfl Tryd.underlying9 rfl h_bs) fun a hk => ?_
  refine d1 3 hk rfl (by kernel_rfl) rfl rfl rfl rfl (r_ld1 hk rfl Tryd.underlying3 rfl h_bk) fun a hk => ?_
  refine d0 4 hk rfl (by kernel_rfl) rfl rfl rfl rfl (fun _ => e_move hk rfl _) fun a hk => ?_
  refine da4 5 hk rfl (by kernel_rfl) rfl rfl hS (a_call hk rfl rfl (c_fn hk rfl ok80) (c80 seed k c (is64_n hkl) (is64_n hcl) hs _ (hG.ext hB)) ?_)
  rintro e w ⟨rfl, hE⟩
  refine ⟨_, rfl, fun a hk => ⟨ext_at hE hS, ?_⟩⟩
  have hS := ext_at hE hS
  have h_bk := ext_at hE h_bk
  have h_bs := ext_at hE h_bs
  have h_b4 := ext_at hE h_b4
  have hB := ext_trans hB hE
  clear hE
  refine da 6 hk rfl (by kernel_rfl) rfl rfl (a_call hk rfl rfl (c_fn hk rfl ok79) (c79 k c (is64_n hkl) (is64_n hcl) 0 3 (by decide) (by decide) _ (length_startS seed k c) _ (hG.ext hB)) ?_)
  rintro e w ⟨rfl, hE⟩
  refine ⟨_, rfl, fun a hk => ?_⟩
  have hS := ext_at hE hS
  have h_bk := ext_at hE h_bk
  have h_bs := ext_at hE h_bs
  have h_b4 := ext_at hE h_b4
  have hB := ext_trans hB hE
  clear hE
  refine da 7 hk rfl (by kernel_rfl) rfl rfl (a_st44 (l := adv k c 0 3 (startS seed k c)) hk rfl rfl hv16 h_b4 rfl fun a w hk W => ?_)
  have h_bk := W.keep n_bk_b4 h_bk
  have h_bs := W.keep n_bs_b4 h_bs
  have hB := W.below hB hg_b4
  have h_b4 := W.at_
  clear W
  refine okFin (by kernel_rfl) (hK2 _ _ ?_)
  refine wp_ret ?_
  exact ret44 (l := adv k c 0 3 (startS seed k c)) hk rfl rfl h_b4 hv16 ⟨rfl, hB⟩

set_option maxRecDepth 4000 in
set_option maxHeartbeats 1000000 in
theorem c83 (r : List UInt8) (k : Nat) (hkr : 16 * k + 16 ≤ r.length) (hrl : r.length ≤ 1000000000) (br : Nat) (ad : Option Addr) (c : Nat) (w0 : World) (h_br : w0.heap[br]? = some (.cells #[.slice ad r.length c] 22 (0, 0))) (hR : Rd w0 ad r.length c 1 (r.map B)) :
    Calls Tryd.prog 83 #[I (k : Nat), .pointer (some ⟨br, 0, none⟩)] w0 fun e w' => e = .returned (D (chunk r k)) ∧ Ext w0 w' := by
  refine start 13 Tryd.func83 rfl rfl rfl fun a hk => ?_
  have hB : Ext w0 w0 := Below.refl _ _
  refine wp_seq_k fun K1 hK1 => ?_
  refine wp_region_lit ?_
  refine la hk rfl (a_alloc hk rfl zr44 fun a w b3 hk G => ?_)
  have n_br_b3 : br ≠ b3 := G.ne h_br
  have hg_b3 : w0.heap.size ≤ b3 := Nat.le_trans hB.size G.ge
  have h_br := ext_at G.ext h_br
  have hB := ext_trans hB G.ext
  have h_b3 := G.at_
  clear G
  refine lnil (hK1 _ _ ?_)
  refine wp_seq_k fun K2 hK2 => ?_
  refine wp_region_lit ?_
  refine ls hk rfl rfl rfl (r_ld1 hk rfl Tryd.underlying22 rfl h_br) fun a hk => ?_
  refine ls hk rfl rfl rfl (e_move hk rfl _) fun a hk => ?_
  refine ls hk rfl rfl rfl (e_mul (q := ((16 * k : Nat) : Int)) hk rfl rfl (by rw [i64 (by omega) (by omega)]; omega) _) fun a hk => ?_
  refine ls hk rfl rfl rfl (e_move hk rfl _) fun a hk => ?_
  refine ls hk rfl rfl rfl (e_add (q := ((k + 1 : Nat) : Int)) hk rfl rfl (by rw [i64 (by omega) (by omega)]; omega) _) fun a hk => ?_
  refine ls hk rfl rfl rfl (e_mul (q := ((16 * k + 16 : Nat) : Int)) hk rfl rfl (by rw [i64 (by omega) (by omega)]; omega) _) fun a hk => ?_
  refine ls hk rfl rfl rfl (e_slS hk rfl rfl rfl Tryd.underlying22 sz5 (by omega) (by omega) (by have := hR.2.1; omega) _) fun a hk => ?_
  have hRk := sub_mid (i := 16 * k) (j := 16 * k + 16) (hR.ext hB) (by omega) (by omega)
  rw [Int.toNat_natCast, Int.toNat_natCast, show 16 * k + 16 - 16 * k = 16 by omega] at hk
  rw [← List.map_take, ← List.map_drop, show 16 * k + 16 - 16 * k = 16 by omega, List.drop_take, show 16 * k + 16 - 16 * k = 16 by omega] at hRk
  have hRk : Rd w _ 16 _ 1 ((chunk r k).map B) := hRk
  have hc16 := length_chunk r k (by omega)
  generalize (if c = 16 * k then ad else ad.map (·.add (16 * k * 1))) = adk at hk hRk
  obtain ⟨x0, hx0⟩ : ∃ x0, (chunk r k)[0]? = some x0 := ⟨_, List.getElem?_eq_getElem (by omega)⟩
  obtain ⟨bq, oq, rfl, _⟩ := hRk.2.2 0 (B x0) (by rw [List.getElem?_map, hx0]; rfl)
  refine ls hk rfl rfl rfl (e_s2a hk rfl Tryd.underlying44 (Nat.le_refl _) _) fun a hk => ?_
  refine ls hk rfl rfl rfl (s_ldR44 (l := chunk r k) hk rfl (rd_range hRk) hc16) fun a hk => ?_
  refine la hk rfl (a_st44 (l := chunk r k) hk rfl rfl hc16 h_b3 rfl fun a w hk W => ?_)
  have h_br := W.keep n_br_b3 h_br
  have hB := W.below hB hg_b3
  have h_b3 := W.at_
  clear W
  refine lnil (hK2 _ _ ?_)
  refine wp_ret ?_
  exact ret44 (l := chunk r k) hk rfl rfl h_b3 hc16 ⟨rfl, hB⟩

theorem ri_cell {w : World} {b o n c : Nat} {l : List Int} (h : Ri w (some ⟨b, o, none⟩) n c l) (j : Nat) (x : Int) (hx : l[j]? = some x) : w.cell? ⟨b, o + j, none⟩ = some (I x) := by
  obtain ⟨b', o', e, hc⟩ := h.get j x hx
  cases e; exact hc

set_option maxRecDepth 4000 in
set_option maxHeartbeats 1000000 in
theorem c85 (r d : List UInt8) (x q : Nat) (hq : q < 68) (hxl : x ≤ 1000000) (hkr : 68 * 16 ≤ r.length) (hrl : r.length ≤ 1000000000) (br bi bd bv : Nat) (ad ad2 : Option Addr) (c c2 : Nat) (w0 : World) (h_br : w0.heap[br]? = some (.cells #[.slice ad r.length c] 22 (0, 0))) (hR : Rd w0 ad r.length c 1 (r.map B))
    (h_bi : w0.heap[bi]? = some (.cells #[I (x : Nat)] 3 (0, 0))) (h_bd : w0.heap[bd]? = some (.cells #[.slice ad2 68 c2] 45 (0, 0))) (hRd : Ri w0 ad2 68 c2 (digI d)) (h_bv : w0.heap[bv]? = some (.cells #[.func (.func 83) #[] #[.pointer (some ⟨br, 0, none⟩)]] 124 (0, 0))) (hG : GH w0) :
    Calls Tryd.prog 85 #[I (q : Nat), .pointer (some ⟨bi, 0, none⟩), .pointer (some ⟨bd, 0, none⟩), .pointer (some ⟨bv, 0, none⟩)] w0 fun e w' => e = .returned (D (verV d x r q)) ∧ Ext w0 w' := by
  have hd4 := dig_lt d q
  have hc16 := length_chunk r q (by omega)
  have hv16 : (verV d x r q).length = 16 := length_adv _ _ _ _ _ hc16
  refine start 16 Tryd.func85 rfl rfl rfl fun a hk => ?_
  have hB : Ext w0 w0 := Below.refl _ _
  refine wp_seq_k fun K1 hK1 => ?_
  refine wp_region_lit ?_
  refine la hk rfl (a_alloc hk rfl zr44 fun a w b5 hk G => ?_)
  have n_br_b5 : br ≠ b5 := G.ne h_br
  have n_bi_b5 : bi ≠ b5 := G.ne h_bi
  have n_bd_b5 : bd ≠ b5 := G.ne h_bd
  have n_bv_b5 : bv ≠ b5 := G.ne h_bv
  have hg_b5 : w0.heap.size ≤ b5 := Nat.le_trans hB.size G.ge
  have h_br := ext_at G.ext h_br
  have h_bi := ext_at G.ext h_bi
  have h_bd := ext_at G.ext h_bd
  have h_bv := ext_at G.ext h_bv
  have hB := ext_trans hB G.ext
  have h_b5 := G.at_
  clear G
  refine lnil (hK1 _ _ ?_)
  refine wp_seq_k fun K2 hK2 => ?_
  obtain ⟨b0, o0, rfl, hd0⟩ := Ri.get hRd q _ (digI_get d q hq)
  refine wp_region_ok (fun w => w.heap[bi]? = some (.cells #[I (x : Nat)] 3 (0, 0)) ∧ w.heap[bd]? = some (.cells #[.slice (some ⟨b0, o0, none⟩) 68 c2] 45 (0, 0)) ∧ Ri w (some ⟨b0, o0, none⟩) 68 c2 (digI d)) [3, 0, 3, 0, 0, 3, 1, 0, 4, 2, 2] mixed ?_
  have hB := hB.drew
  have h_br := ext_at (ext_drew w) h_br
  have h_bi := ext_at (ext_drew w) h_bi
  have h_bd := ext_at (ext_drew w) h_bd
  have h_bv := ext_at (ext_drew w) h_bv
  have h_b5 := ext_at (ext_drew w) h_b5
  have hS : (fun w => w.heap[bi]? = some (.cells #[I (x : Nat)] 3 (0, 0)) ∧ w.heap[bd]? = some (.cells #[.slice (some ⟨b0, o0, none⟩) 68 c2] 45 (0, 0)) ∧ Ri w (some ⟨b0, o0, none⟩) 68 c2 (digI d)) w.drew := ⟨h_bi, h_bd, hRd.ext hB⟩
  refine d3 0 hk rfl (by kernel_rfl) rfl rfl rfl rfl hS (fun w hS => r_ld1 hk rfl Tryd.underlying3 rfl hS.1) fun a hk => ?_
  refine d0 1 hk rfl (by kernel_rfl) rfl rfl rfl rfl (fun _ => e_move hk rfl _) fun a hk => ?_
  refine d3 2 hk rfl (by kernel_rfl) rfl rfl rfl rfl hS (fun w hS => r_ld1 hk rfl Tryd.underlying45 rfl hS.2.1) fun a hk => ?_
  refine d0 3 hk rfl (by kernel_rfl) rfl rfl rfl rfl (fun _ => e_move hk rfl _) fun a hk => ?_
  refine d0 4 hk rfl (by kernel_rfl) rfl rfl rfl rfl (fun _ => e_idxS1 q hk rfl rfl Tryd.underlying45 sz3 rfl hq _) fun a hk => ?_
  refine d3 5 hk rfl (by kernel_rfl) rfl rfl rfl rfl hS (fun w hS => r_load1 (v := I ((dig d q : Nat) : Int)) hk rfl Tryd.underlying3 rfl (ri_cell hS.2.2 q _ (digI_get d q hq))) fun a hk => ?_
  refine d1 6 hk rfl (by kernel_rfl) rfl rfl rfl rfl (r_ld1 hk rfl Tryd.underlying124 rfl h_bv) fun a hk => ?_
  refine d0 7 hk rfl (by kernel_rfl) rfl rfl rfl rfl (fun _ => e_move hk rfl _) fun a hk => ?_
  refine da4 8 hk rfl (by kernel_rfl) rfl rfl hS (a_call hk rfl rfl (c_val (f := 83) (first := []) (captured := [.pointer (some ⟨br, 0, none⟩)]) hk rfl rfl ok83) (c83 r q (by omega) hrl br ad c _ h_br (hR.ext hB)) ?_)
  rintro e w ⟨rfl, hE⟩
  refine ⟨_, rfl, fun a hk => ⟨⟨ext_at hE hS.1, ext_at hE hS.2.1, Rd.ext hS.2.2 hE⟩, ?_⟩⟩
  have hS : (fun w => w.heap[bi]? = some (.cells #[I (x : Nat)] 3 (0, 0)) ∧ w.heap[bd]? = some (.cells #[.slice (some ⟨b0, o0, none⟩) 68 c2] 45 (0, 0)) ∧ Ri w (some ⟨b0, o0, none⟩) 68 c2 (digI d)) w := ⟨ext_at hE hS.1, ext_at hE hS.2.1, Rd.ext hS.2.2 hE⟩
  have h_br := ext_at hE h_br
  have h_bi := ext_at hE h_bi
  have h_bd := ext_at hE h_bd
  have h_bv := ext_at hE h_bv
  have h_b5 := ext_at hE h_b5
  have hB := ext_trans hB hE
  clear hE
  refine da 9 hk rfl (by kernel_rfl) rfl rfl (a_call hk rfl rfl (c_fn hk rfl ok79) (c79 x q (is64_n hxl) (is64_n (by omega)) (dig d q) 3 (by omega) (by decide) _ hc16 _ (hG.ext hB)) ?_)
  rintro e w ⟨rfl, hE⟩
  refine ⟨_, rfl, fun a hk => ?_⟩
  have hS : (fun w => w.heap[bi]? = some (.cells #[I (x : Nat)] 3 (0, 0)) ∧ w.heap[bd]? = some (.cells #[.slice (some ⟨b0, o0, none⟩) 68 c2] 45 (0, 0)) ∧ Ri w (some ⟨b0, o0, none⟩) 68 c2 (digI d)) w := ⟨ext_at hE hS.1, ext_at hE hS.2.1, Rd.ext hS.2.2 hE⟩
  have h_br := ext_at hE h_br
  have h_bi := ext_at hE h_bi
  have h_bd := ext_at hE h_bd
  have h_bv := ext_at hE h_bv
  have h_b5 := ext_at hE h_b5
  have hB := ext_trans hB hE
  clear hE
  refine da 10 hk rfl (by kernel_rfl) rfl rfl (a_st44 (l := verV d x r q) hk rfl rfl hv16 h_b5 rfl fun a w hk W => ?_)
  have h_br := W.keep n_br_b5 h_br
  have h_bi := W.keep n_bi_b5 h_bi
  have h_bd := W.keep n_bd_b5 h_bd
  have h_bv := W.keep n_bv_b5 h_bv
  have hB := W.below hB hg_b5
  have h_b5 := W.at_
  clear W
  refine okFin (by kernel_rfl) (hK2 _ _ ?_)
  refine wp_ret ?_
  exact ret44 (l := verV d x r q) hk rfl rfl h_b5 hv16 ⟨rfl, hB⟩

set_option maxRecDepth 4000 in
set_option maxHeartbeats 1000000 in
theorem c75 (h : Int) (w0 : World) : Calls Tryd.prog 75 #[I h] w0 fun e w' => e = .returned (.bool (decide (0 ≤ h ∧ h ≤ 6))) ∧ Ext w0 w' := by
  refine start 9 Tryd.func75 rfl rfl rfl fun a hk => ?_
  have hB : Ext w0 w0 := Below.refl _ _
  refine wp_seq_k fun K1 hK1 => ?_
  refine wp_region_lit ?_
  refine ls hk rfl rfl rfl (e_assign hk rfl _) fun a hk => ?_
  refine lnil (hK1 _ _ ?_)
  refine wp_seq_k fun K2 hK2 => ?_
  by_cases h0 : 0 ≤ h
  · refine wp_region_lit ?_
    refine ls hk rfl rfl rfl (e_move hk rfl _) fun a hk => ?_
    refine ls hk rfl rfl rfl (e_geq (b := true) hk rfl rfl (decide_eq_true h0) _) fun a hk => ?_
    refine ls hk rfl rfl rfl (e_move hk rfl _) fun a hk => ?_
    refine ls hk rfl rfl rfl (e_move hk rfl _) fun a hk => ?_
    refine ls hk rfl rfl rfl (e_leq hk rfl rfl rfl _) fun a hk => ?_
    refine ls hk rfl rfl rfl (e_pickT hk rfl rfl _) fun a hk => ?_
    refine ls hk rfl rfl rfl (e_assign hk rfl _) fun a hk => ?_
    refine lnil (hK2 _ _ ?_)
    refine wp_ret ?_
    exact ret1 hk rfl rfl ⟨by rw [show decide (h ≤ 6) = decide (0 ≤ h ∧ h ≤ 6) by simp [h0]], hB⟩
  · refine wp_region_lit ?_
    refine ls hk rfl rfl rfl (e_move hk rfl _) fun a hk => ?_
    refine ls hk rfl rfl rfl (e_geq (b := false) hk rfl rfl (decide_eq_false h0) _) fun a hk => ?_
    refine ls hk rfl rfl rfl (e_move hk rfl _) fun a hk => ?_
    refine lno hk rfl rfl rfl fun a hk => ?_
    refine lno hk rfl rfl rfl fun a hk => ?_
    refine ls hk rfl rfl rfl (e_pickF hk rfl rfl _) fun a hk => ?_
    refine ls hk rfl rfl rfl (e_assign hk rfl _) fun a hk => ?_
    refine lnil (hK2 _ _ ?_)
    refine wp_ret ?_
    exact ret1 hk rfl rfl ⟨by rw [show decide (0 ≤ h ∧ h ≤ 6) = false by simp [h0]], hB⟩

end Go.Proofs.YtidfbboalbchiaaDoor

namespace Go.Proofs.YtidfbboalbchiaaDoor
open Go Go.RowKit
variable {P : Program}
theorem run_partI {e : TypeId} {inf : TypeInfo} (l : List Int) (i : Nat) (w : World) (he : P.underlying e = some (.int .i64)) (hq : P.info? e = some inf) (hs : inf.size = 1) (hi : i < l.length) : (part e (l.map I).toArray i).run P w = .ok (I l[i]) w := by
  have hagg : (isAgg e).run P w = .ok false w := isAgg_row he rfl
  simp [part, sizeOf, typeInfo, hq, hs, hi, hagg]
theorem eq_loopI (d : Nat) (e : TypeId) (l r : List Int) (w : World) (he : P.underlying e = some (.int .i64)) (inf : TypeInfo) (hq : P.info? e = some inf) (hs : inf.size = 1) (hlr : l.length = r.length) : ∀ (m k : Nat), k + m = l.length →
    Sem.run P (forIn (List.range' k m) ((none, ()) : Option Bool × Unit) fun i __s => do
            let __do_lift ← part e (List.map I l).toArray i
            let __do_lift_1 ← part e (List.map I r).toArray i
            let __do_lift ← Op.equalIn (d + 1) e __do_lift __do_lift_1
            if __do_lift = false then pure (ForInStep.done (some false, ())) else pure (ForInStep.yield (none, ()))) w = .ok (if l.drop k = r.drop k then (none, ()) else (some false, ())) w := by
  intro m
  induction m with
  | zero =>
    intro k hk
    rw [List.drop_of_length_le (by omega), List.drop_of_length_le (by omega)]
    simp
  | succ m ih =>
    intro k hk
    rw [List.range'_succ, List.forIn_cons]
    have h1 : k < l.length := by omega
    have h2 : k < r.length := by omega
    have hd : (l.drop k = r.drop k) ↔ (l[k] = r[k] ∧ l.drop (k + 1) = r.drop (k + 1)) := by
      rw [List.drop_eq_getElem_cons h1, List.drop_eq_getElem_cons h2]
      exact List.cons.injEq _ _ _ _ ▸ Iff.rfl
    simp only [Sem.run_bind, run_partI l k w he hq hs h1, run_partI r k w he hq hs h2, Result.andThen_ok, run_equalIn_int w d e .i64 .i64 _ _ he]
    by_cases hc : l[k] = r[k]
    · have := ih (k + 1) (by omega)
      simp [hd, hc, this]
    · have hb : (l[k] == r[k]) = false := beq_eq_false_iff_ne.2 hc
      simp [hd, hb, hc]
theorem eqAI (d : Nat) (t e : TypeId) (n : Nat) (l r : List Int) (w : World) (ht : P.underlying t = some (.array n e)) (he : P.underlying e = some (.int .i64)) (hs : (P.info? e).map (·.size) = some 1) (hl : l.length = n) (hr : r.length = n) :
    (Op.equalIn (d + 2) t (.agg (l.map I).toArray) (.agg (r.map I).toArray)).run P w = .ok (decide (l = r)) w := by
  cases hq : P.info? e with
  | none => simp [hq] at hs
  | some inf =>
  have hs' : inf.size = 1 := by simpa [hq] using hs
  rw [Op.equalIn]
  simp only [Sem.run_bind, run_underlying ht, Result.andThen_ok]
  simp [sizeOf, typeInfo, hq, hs']
  rw [eq_loopI d e l r w he inf hq hs' (by omega) n 0 (by omega)]
  by_cases h : l = r
  · simp [h]
  · simp [h]
theorem e_eqI {dst : Option Tmp} {ty : TypeId} {pos : String} {af : Array Edge} {g : Option (Nat × Bool)} {N : Nat} {L : Fm} {a : Act} {x y : Operand} {t e t' : TypeId} {n : Nat} {l r : List Int} {b : Bool} (hk : Kn a N L) (hx : ov L x = some (.agg (l.map I).toArray)) (hy : ov L y = some (.agg (r.map I).toArray))
    (ht : P.underlying t = some (.array n e)) (he : P.underlying e = some (.int .i64)) (hs : (P.info? e).map (·.size) = some 1) (hl : l.length = n) (hr : r.length = n) (hg : P.eqGuardType P.depth t = false) (hb : decide (l = r) = b) (w : World) :
    Ev P ⟨dst, .binOp .eql t x y t', ty, pos, af, g⟩ a w (.bool b) := by
  have h := eqAI (P := P) 9998 t e n l r w ht he hs hl hr
  subst hb
  simp only [Ev, execOp, hk.op hx, hk.op hy, Sem.run_bind, run_eqGuard_agg _ _ _ _ _ _ _ hg, Result.andThen_ok, run_eql_struct]
  rw [h]
  rfl
theorem e_neA {dst : Option Tmp} {ty : TypeId} {pos : String} {af : Array Edge} {g : Option (Nat × Bool)} {N : Nat} {L : Fm} {a : Act} {x y : Operand} {t e t' : TypeId} {n : Nat} {l r : List UInt8} {b : Bool} (hk : Kn a N L) (hx : ov L x = some (.agg (l.map B).toArray)) (hy : ov L y = some (.agg (r.map B).toArray))
    (ht : P.underlying t = some (.array n e)) (he : P.underlying e = some (.int .u8)) (hs : (P.info? e).map (·.size) = some 1) (hl : l.length = n) (hr : r.length = n) (hg : P.eqGuardType P.depth t = false) (hb : (!decide (l = r)) = b) (w : World) :
    Ev P ⟨dst, .binOp .neq t x y t', ty, pos, af, g⟩ a w (.bool b) := by
  have h := eqA (P := P) 9998 t e n l r w ht he hs hl hr
  subst hb
  simp only [Ev, execOp, hk.op hx, hk.op hy, Sem.run_bind, run_eqGuard_agg _ _ _ _ _ _ _ hg, Result.andThen_ok, run_neq_struct]
  rw [h]
  rfl
end Go.Proofs.YtidfbboalbchiaaDoor

namespace Go.Proofs.YtidfbboalbchiaaDoor
open Go Go.RowKit

abbrev kI (l k : Nat) : Value := .agg #[I (l : Nat), I (k : Nat)]
def EntOk (seed : List UInt8) (e : MapEntry) : Prop := ∃ l k : Nat, e.key = kI l k ∧ e.val = D (nodeAt seed l k)
def MapOk (seed : List UInt8) (bm : Nat) (w : World) : Prop := ∃ es clock, w.heap[bm]? = some (.map es clock) ∧ ∀ e ∈ es.toList, EntOk seed e
theorem MapOk.ext {seed : List UInt8} {bm : Nat} {w w' : World} (h : MapOk seed bm w) (hE : Ext w w') : MapOk seed bm w' := by
  obtain ⟨es, c, h1, h2⟩ := h
  exact ⟨es, c, ext_at hE h1, h2⟩
theorem MapOk.wrote {seed : List UInt8} {bm b : Nat} {o : Obj} {w w' : World} (h : MapOk seed bm w) (W : Wrote w w' b o) (hne : bm ≠ b) : MapOk seed bm w' := by
  obtain ⟨es, c, h1, h2⟩ := h
  exact ⟨es, c, W.keep hne h1, h2⟩
theorem MapOk.lt {seed : List UInt8} {bm : Nat} {w : World} (h : MapOk seed bm w) : bm < w.heap.size := by
  obtain ⟨es, c, h1, h2⟩ := h
  exact heap_lt h1
theorem MapOk.ne {seed : List UInt8} {bm b : Nat} {cs : Array Value} {t : TypeId} {fr : Nat × Nat} {w : World} (h : MapOk seed bm w) (hb : w.heap[b]? = some (.cells cs t fr)) : b ≠ bm := by
  obtain ⟨es, c, h1, h2⟩ := h
  intro e; subst e; rw [h1] at hb; cases hb
theorem run_eqK (l k l' k' : Nat) (w : World) : (Op.equal 66 (kI l k) (kI l' k')).run Tryd.prog w = .ok (decide (([(l : Int), (k : Int)] : List Int) = [(l' : Int), (k' : Int)])) w := by
  have h := eqAI (P := Tryd.prog) 9998 66 3 2 [(l : Int), (k : Int)] [(l' : Int), (k' : Int)] w Tryd.underlying66 Tryd.underlying3 sz3 rfl rfl
  have h2 : (Op.equalIn (9998 + 2) 66 (kI l k) (kI l' k')).run Tryd.prog w = _ := h
  simp only [Op.equal, Op.maxDepth]
  exact h2
theorem run_asking (seed : List UInt8) (l k : Nat) (w : World) : ∀ (es : List MapEntry) (i : Nat), (∀ e ∈ es, EntOk seed e) →
    ∃ r, (Instr.findAsking 66 (kI l k) es i).run Tryd.prog w = .ok r w ∧ ∀ j v, r = some (j, v) → i ≤ j ∧ ∃ e, es[j - i]? = some e ∧ e.key = kI l k ∧ v = e.val ∧ v = D (nodeAt seed l k) := by
  intro es
  induction es with
  | nil => intro i _; exact ⟨none, rfl, fun _ _ h => by cases h⟩
  | cons e es ih =>
    intro i hok
    obtain ⟨l', k', hkey, hval⟩ := hok e (List.mem_cons_self ..)
    have hq := run_eqK l k l' k' w
    unfold Instr.findAsking
    simp only [Sem.run_bind, hkey, hq, Result.andThen_ok]
    by_cases hc : ([(l : Int), (k : Int)] : List Int) = [(l' : Int), (k' : Int)]
    · have hl : l = l' := by have := (List.cons.inj hc).1; omega
      have hk : k = k' := by have := (List.cons.inj (List.cons.inj hc).2).1; omega
      subst hl hk
      refine ⟨some (i, e.val), by simp, fun j v h => ?_⟩
      cases h
      exact ⟨Nat.le_refl _, e, by simp, hkey, rfl, hval⟩
    · obtain ⟨r, hr, hprop⟩ := ih (i + 1) fun x hx => hok x (List.mem_cons_of_mem _ hx)
      refine ⟨r, by rw [decide_eq_false hc]; simpa using hr, fun j v h => ?_⟩
      obtain ⟨h1, x, h2, h3⟩ := hprop j v h
      refine ⟨by omega, x, ?_, h3⟩
      rw [show j - i = (j - (i + 1)) + 1 by omega, List.getElem?_cons_succ]
      exact h2
theorem run_findK (seed : List UInt8) (l k : Nat) (w : World) (es : List MapEntry) (hok : ∀ e ∈ es, EntOk seed e) :
    ∃ r, (Instr.findKey 66 (kI l k) es).run Tryd.prog w = .ok r w ∧ ∀ j v, r = some (j, v) → ∃ e, es[j]? = some e ∧ e.key = kI l k ∧ v = e.val ∧ v = D (nodeAt seed l k) := by
  unfold Instr.findKey
  simp only [Sem.run_bind, run_underlying Tryd.underlying66, Result.andThen_ok]
  cases es with
  | nil => exact ⟨none, rfl, fun _ _ h => by cases h⟩
  | cons e es =>
    have hn : Instr.findNow (.array 2 3) (kI l k) (e :: es) 0 = none := rfl
    rw [hn]
    obtain ⟨r, hr, hp⟩ := run_asking seed l k w (e :: es) 0 hok
    refine ⟨r, hr, fun j v h => ?_⟩
    obtain ⟨_, x, hx⟩ := hp j v h
    exact ⟨x, by simpa using hx⟩
theorem run_checkInt (em : Bool) (n : Nat) (x : Int) (w : World) : (Instr.checkKey em (n + 1) 3 (I x)).run Tryd.prog w = .ok () w := by
  unfold Instr.checkKey
  simp [run_underlying Tryd.underlying3]
theorem run_checkPair (em : Bool) (l k : Nat) (w : World) : (Instr.checkKey em 10000 66 (kI l k)).run Tryd.prog w = .ok () w := by
  show (Instr.checkKey em (9999 + 1) 66 (kI l k)).run Tryd.prog w = .ok () w
  cases hq : Tryd.prog.info? 3 with
  | none => have := sz3; rw [hq] at this; cases this
  | some inf =>
  have hs' : inf.size = 1 := by have := sz3; rw [hq] at this; simpa using this
  have hsz : (sizeOf 3).run Tryd.prog w = .ok 1 w := by simp [sizeOf, typeInfo, hq, hs']
  have p0 : (part 3 #[I (l : Nat), I (k : Nat)] 0).run Tryd.prog w = .ok (I (l : Nat)) w := run_partI [(l : Int), (k : Int)] 0 w Tryd.underlying3 hq hs' (by simp)
  have p1 : (part 3 #[I (l : Nat), I (k : Nat)] 1).run Tryd.prog w = .ok (I (k : Nat)) w := run_partI [(l : Int), (k : Int)] 1 w Tryd.underlying3 hq hs' (by simp)
  have hr : List.range' 0 2 = [0, 1] := rfl
  have c0 := run_checkInt em 9998 (l : Nat) w
  have c1 := run_checkInt em 9998 (k : Nat) w
  unfold Instr.checkKey
  simp only [Sem.run_bind, run_underlying Tryd.underlying66, Result.andThen_ok]
  simp [hr, hsz, p0, p1, c0, c1]
section
variable {a : Act} {N : Nat} {L : Fm} {ty : TypeId} {pos : String} {af : Array Edge} {g : Option (Nat × Bool)} {x y z : Operand} {dst : Option Tmp} {w : World}
/-- A look into the map. -/
theorem map_look {seed : List UInt8} {bm : Nat} (hM : MapOk seed bm w) (l k : Nat) : ∃ d ok, (Instr.lookup 157 (.map (some bm)) (kI l k) true).run Tryd.prog w = .ok (.tuple #[D d, .bool ok]) w ∧ d.length = 16 ∧ (ok = true → d = nodeAt seed l k) := by
  obtain ⟨es, clock, hb, hok⟩ := hM
  obtain ⟨r, hr, hp⟩ := run_findK seed l k w es.toList hok
  have hc := run_checkPair es.isEmpty l k w
  have hz : (zeroValue 44).run Tryd.prog w = .ok (D zD) w := by
    have h := zr44
    cases hq : Tryd.prog.info? 44 with
    | none => rw [hq] at h; cases h
    | some inf =>
      rw [hq] at h
      have hz' : inf.zero = some (.agg (List.replicate 16 (Value.int .u8 0)).toArray) := by simpa using h
      simp [zeroValue, typeInfo, hq, hz', zD]
  cases r with
  | none =>
    refine ⟨zD, false, ?_, by simp [zD], fun h => by cases h⟩
    unfold Instr.lookup
    simp [run_underlying Tryd.underlying157, MapKept.run_getObj_map hb, hc, hr, hz]
  | some p =>
    obtain ⟨j, v⟩ := p
    obtain ⟨e, _, _, _, hv⟩ := hp j v rfl
    subst hv
    refine ⟨nodeAt seed l k, true, ?_, by simp, fun _ => rfl⟩
    unfold Instr.lookup
    simp [run_underlying Tryd.underlying157, MapKept.run_getObj_map hb, hc, hr]
theorem r_look {v : Value} {bm l k : Nat} (hk : Kn a N L) (hx : ov L x = some (.map (some bm))) (hy : ov L y = some (kI l k)) (h : (Instr.lookup 157 (.map (some bm)) (kI l k) true).run Tryd.prog w = .ok v w) : Ev Tryd.prog ⟨dst, .lookup 157 x y true, ty, pos, af, g⟩ a w v := by
  simp [Ev, execOp, hk.op hx, hk.op hy, h]
theorem wrote_set {bm : Nat} {o o' : Obj} (hb : w.heap[bm]? = some o) : Wrote w { w with heap := w.heap.setIfInBounds bm o' } bm o' := by
  have hlt := heap_lt hb
  exact ⟨by simp [hlt], fun k hk => by simp [Array.getElem?_setIfInBounds_ne (Ne.symm hk)], by simp, rfl, rfl, rfl⟩
theorem sameK (l k : Nat) : Instr.sameBits 10000 (kI l k) (kI l k) = true := by
  show Instr.sameBits (9998 + 1 + 1) (kI l k) (kI l k) = true
  simp [Instr.sameBits]
/-- The map is given the node. -/
theorem map_set {seed : List UInt8} {bm : Nat} (hM : MapOk seed bm w) (l k : Nat) : ∃ w', (Instr.mapUpdate 157 (.map (some bm)) (kI l k) (D (nodeAt seed l k))).run Tryd.prog w = .ok () w' ∧ MapOk seed bm w' ∧ ∃ o, Wrote w w' bm o := by
  obtain ⟨es, clock, hb, hok⟩ := hM
  obtain ⟨r, hr, hp⟩ := run_findK seed l k w es.toList hok
  have hc := run_checkPair false l k w
  cases r with
  | none =>
    have W : Wrote w _ bm (.map (es.push { key := kI l k, val := D (nodeAt seed l k), born := clock }) (clock + 1)) := wrote_set hb
    refine ⟨_, ?_, ⟨_, _, W.at_, ?_⟩, _, W⟩
    · unfold Instr.mapUpdate
      simp [run_underlying Tryd.underlying157, MapKept.run_getObj_map hb, hc, hr, MapKept.run_setObj_map _ hb]
    · intro e he
      simp only [Array.toList_push, List.mem_append, List.mem_singleton] at he
      rcases he with he | rfl
      · exact hok e he
      · exact ⟨l, k, rfl, rfl⟩
  | some p =>
    obtain ⟨j, v⟩ := p
    obtain ⟨e, he, hkey, _, _⟩ := hp j v rfl
    have he' : es[j]? = some e := by simpa using he
    have W : Wrote w _ bm (.map (es.modify j fun e => { e with key := kI l k, val := D (nodeAt seed l k) }) clock) := wrote_set hb
    refine ⟨_, ?_, ⟨_, _, W.at_, ?_⟩, _, W⟩
    · have hst : (Instr.keyThatStays (kI l k) (kI l k)).run Tryd.prog w = .ok (kI l k) w := by
        unfold Instr.keyThatStays
        rw [if_pos (sameK l k)]; rfl
      unfold Instr.mapUpdate
      simp [run_underlying Tryd.underlying157, MapKept.run_getObj_map hb, hc, hr, he', hkey, hst, MapKept.run_setObj_map _ hb]
    · intro x hx
      obtain ⟨i, hi⟩ := List.getElem?_of_mem hx
      rw [Array.getElem?_toList, Array.getElem?_modify] at hi
      split at hi
      · cases hq : es[i]? with
        | none => rw [hq] at hi; cases hi
        | some y =>
          rw [hq] at hi
          obtain rfl : { y with key := kI l k, val := D (nodeAt seed l k) } = x := by simpa using hi
          exact ⟨l, k, rfl, rfl⟩
      · exact hok x (by
          have : es.toList[i]? = some x := by simpa using hi
          exact List.mem_of_getElem? this)
theorem a_mapset {seed : List UInt8} {bm l k : Nat} {K : Act → World → Prop} (hk : Kn a N L) (hx : ov L x = some (.map (some bm))) (hy : ov L y = some (kI l k)) (hz : ov L z = some (D (nodeAt seed l k))) (hM : MapOk seed bm w)
    (hK : ∀ a' w' o, Kn a' N L → Wrote w w' bm o → MapOk seed bm w' → K a' w') : acts Tryd.prog ⟨none, .mapUpdate 157 x y z, ty, pos, af, g⟩ K a w := by
  obtain ⟨w', h1, h2, o, h3⟩ := map_set hM l k
  refine act_s hk rfl ?_ fun a' hk' => hK a' w' o hk' h3 h2
  simp [execOp, hk.op hx, hk.op hy, hk.op hz, h1]
theorem a_mkmap {d : Nat} {K : Act → World → Prop} (hk : Kn a N L) (hN : Nat.blt d N = true) (hK : ∀ a' w' b, Kn a' N ((d, .map (some b)) :: L) → Grew w w' b (.map #[] 0) → K a' w') : acts Tryd.prog ⟨some d, .makeMap 157 none, ty, pos, af, g⟩ K a w := by
  refine act_v hk rfl hN (v := .map (some w.heap.size)) (w' := w.alloc (.map #[] 0)) ?_ fun a' hk' => hK a' _ _ hk' (grew_alloc _ _)
  simp [execOp, Instr.makeMap, newObj, Sem.run]
  try rfl
end
end Go.Proofs.YtidfbboalbchiaaDoor
