/- Part 11 of the texts that a claim's last texts stand on: Enc, A35, A36, Tree2, Ord2. Conditions: those that each theorem names. -/
import Derived.Test.YtidfbboalbchiaaDoorT3
import Derived.Test.YtidfbboalbchiaaDoorT10
namespace Go.Proofs.YtidfbboalbchiaaDoor
open Go Go.RowKit

/-- The number that some bytes are. -/
def val (l : List UInt8) : Nat := l.foldl (fun acc x => acc * 256 + x.toNat) 0
theorem val_append (l : List UInt8) (x : UInt8) : val (l ++ [x]) = val l * 256 + x.toNat := by simp [val]
theorem val_digits : ∀ (k m : Nat), val ((List.range k).map fun i => UInt8.ofNat (m / 256 ^ (k - 1 - i) % 256)) = m % 256 ^ k := by
  intro k
  induction k with
  | zero => intro m; simp [val, Nat.mod_one]
  | succ k ih =>
    intro m
    rw [List.range_succ, List.map_append, List.map_cons, List.map_nil, val_append]
    have e : ((List.range k).map fun i => UInt8.ofNat (m / 256 ^ (k + 1 - 1 - i) % 256)) = (List.range k).map fun i => UInt8.ofNat (m / 256 / 256 ^ (k - 1 - i) % 256) := by
      apply List.map_congr_left
      intro i hi
      have hi' : i < k := List.mem_range.1 hi
      rw [Nat.div_div_eq_div_mul, ← Nat.pow_succ', show (k - 1 - i).succ = k + 1 - 1 - i by omega]
    rw [e, ih, show k + 1 - 1 - k = 0 by omega, Nat.pow_zero, Nat.div_one]
    have e2 : (UInt8.ofNat (m % 256)).toNat = m % 256 := by
      have : (UInt8.ofNat (m % 256)).toNat = m % 256 % 2 ^ 8 := rfl
      omega
    rw [e2, Nat.pow_succ', Nat.mod_mul, Nat.mul_comm, Nat.add_comm]
theorem val_digs (m : Nat) (h : m < 18446744073709551616) : val (digs m 0) = m := by
  have := val_digits (nb m) m
  rw [Nat.mod_eq_of_lt (nb_lt m h)] at this
  unfold digs
  simpa using this
theorem encI_nat (n : Nat) : encI (n : Int) = UInt8.ofNat (128 + nb n) :: digs n 0 := by
  have h1 : mag (n : Int) = n := by unfold mag; rw [if_neg (by omega)]; omega
  have h2 : flip (n : Int) = 0 := by unfold flip; rw [if_neg (by omega)]
  rw [encI, h1, h2, UInt8.xor_zero]
theorem encI_pre {n m : Nat} {r r' : List UInt8} (hn : n < 18446744073709551616) (hm : m < 18446744073709551616) (h : encI (n : Int) ++ r = encI (m : Int) ++ r') : n = m ∧ r = r' := by
  rw [encI_nat, encI_nat, List.cons_append, List.cons_append] at h
  obtain ⟨h1, h2⟩ := List.cons.inj h
  have hk : nb n = nb m := by
    have h3 := congrArg UInt8.toNat h1
    have e1 : (UInt8.ofNat (128 + nb n)).toNat = (128 + nb n) % 2 ^ 8 := rfl
    have e2 : (UInt8.ofNat (128 + nb m)).toNat = (128 + nb m) % 2 ^ 8 := rfl
    have := nb_le n
    have := nb_le m
    omega
  obtain ⟨h4, h5⟩ := List.append_inj h2 (by rw [length_digs, length_digs, hk])
  have := congrArg val h4
  rw [val_digs n hn, val_digs m hm] at this
  exact ⟨this, h5⟩
theorem encB_pre {s t r r' : List UInt8} (hs : s.length < 18446744073709551616) (ht : t.length < 18446744073709551616) (h : encB s ++ r = encB t ++ r') : s = t ∧ r = r' := by
  unfold encB at h
  rw [List.append_assoc, List.append_assoc] at h
  obtain ⟨h1, h2⟩ := encI_pre hs ht h
  exact List.append_inj h2 h1
theorem parts_pre : ∀ (ps qs : List (List UInt8)), (∀ x ∈ ps, x.length < 18446744073709551616) → (∀ x ∈ qs, x.length < 18446744073709551616) → (ps.map encB).flatten = (qs.map encB).flatten → ps = qs := by
  intro ps
  induction ps with
  | nil =>
    intro qs _ _ h
    cases qs with
    | nil => rfl
    | cons y r =>
      have := congrArg List.length h
      simp [encB, length_encI] at this
      omega
  | cons x r ih =>
    intro qs hp hq h
    cases qs with
    | nil =>
      have := congrArg List.length h
      simp [encB, length_encI] at this
    | cons y s =>
      simp only [List.map_cons, List.flatten_cons] at h
      obtain ⟨rfl, h2⟩ := encB_pre (hp x (List.mem_cons_self ..)) (hq y (List.mem_cons_self ..)) h
      rw [ih s (fun z hz => hp z (List.mem_cons_of_mem _ hz)) (fun z hz => hq z (List.mem_cons_of_mem _ hz)) h2]
/-- A tag that is a byte. -/
theorem byteOf_u8 (x : UInt8) : byteOf (x.toNat : Int) = x := by rw [byteOf_nat]; simp
theorem ofIn_inj {x y : UInt8} {ps qs : List (List UInt8)} (hp : ∀ x ∈ ps, x.length ≤ 400) (hq : ∀ x ∈ qs, x.length ≤ 400) (h : ofIn (x.toNat : Int) ps = ofIn (y.toNat : Int) qs) : x = y ∧ ps = qs := by
  unfold ofIn at h
  rw [byteOf_u8, byteOf_u8] at h
  obtain ⟨h1, h2⟩ := List.cons.inj h
  exact ⟨h1, parts_pre ps qs (fun z hz => by have := hp z hz; omega) (fun z hz => by have := hq z hz; omega) h2⟩
theorem take_eq_s {α : Type} (s t : List α) (j : Nat) (x y : α) (hx : s[j]? = some x) (hy : t[j]? = some y) : s.take (j + 1) = t.take (j + 1) ↔ s.take j = t.take j ∧ x = y := by
  obtain ⟨h1, e1⟩ := List.getElem?_eq_some_iff.1 hx
  obtain ⟨h2, e2⟩ := List.getElem?_eq_some_iff.1 hy
  rw [List.take_add_one, List.take_add_one, hx, hy]
  constructor
  · intro h
    obtain ⟨h3, h4⟩ := List.append_inj h (by simp; omega)
    exact ⟨h3, by simpa using h4⟩
  · rintro ⟨h3, rfl⟩; rw [h3]
theorem u8_eq (x y : UInt8) : decide ((x.toNat : Int) = (y.toNat : Int)) = decide (x = y) := by
  by_cases h : x = y
  · simp [h]
  · have : ¬ (x.toNat : Int) = (y.toNat : Int) := fun e => h (UInt8.toNat.inj (by omega))
    simp [h, this]
/-- Equality of two bools that are known to be the same. -/
theorem beq_of {p q : Bool} (h : p = q) : (p == q) = true := by rw [h]; simp
end Go.Proofs.YtidfbboalbchiaaDoor

namespace Go.Proofs.YtidfbboalbchiaaDoor
open Go Go.RowKit

/-- Cells that are bytes. -/
def AllB (X : List Value) : Prop := ∀ u ∈ X, ∃ x : UInt8, u = B x
theorem AllB.one {X : List Value} (h : AllB X) : ∀ u ∈ X, u.oneCell' = true := fun u hu => by obtain ⟨x, rfl⟩ := h u hu; rfl
theorem allB_map (d : List UInt8) : AllB (d.map B) := fun u hu => by
  obtain ⟨x, _, rfl⟩ := List.mem_map.1 hu
  exact ⟨x, rfl⟩
theorem allB_digs (s : List (List UInt8)) : AllB (digs16 s) := fun u hu => by
  simp only [digs16, List.mem_flatten, List.mem_map] at hu
  obtain ⟨l, ⟨d, _, rfl⟩, hu⟩ := hu
  exact allB_map d u hu
theorem AllB.take {X : List Value} (h : AllB X) (k : Nat) : AllB (X.take k) := fun u hu => h u (List.mem_of_mem_take hu)
theorem AllB.drop {X : List Value} (h : AllB X) (k : Nat) : AllB (X.drop k) := fun u hu => h u (List.mem_of_mem_drop hu)
theorem AllB.append {X Y : List Value} (h : AllB X) (k : AllB Y) : AllB (X ++ Y) := fun u hu => by
  rcases List.mem_append.1 hu with hu | hu
  · exact h u hu
  · exact k u hu
theorem AllB.set {X : List Value} (h : AllB X) (i : Nat) (y : UInt8) : AllB (X.set i (B y)) := fun u hu => by
  rcases List.mem_or_eq_of_mem_set hu with hu | rfl
  · exact h u hu
  · exact ⟨y, rfl⟩
theorem bytes_of : ∀ (X : List Value), AllB X → ∃ d : List UInt8, X = d.map B := by
  intro X
  induction X with
  | nil => intro _; exact ⟨[], rfl⟩
  | cons u r ih =>
    intro h
    obtain ⟨x, rfl⟩ := h u (List.mem_cons_self ..)
    obtain ⟨d, rfl⟩ := ih fun v hv => h v (List.mem_cons_of_mem _ hv)
    exact ⟨x :: d, rfl⟩
theorem digs_of : ∀ (n : Nat) (X : List Value), X.length = n * 16 → AllB X → ∃ s : List (List UInt8), X = digs16 s ∧ s.length = n ∧ ∀ d ∈ s, d.length = 16 := by
  intro n
  induction n with
  | zero => intro X h _; exact ⟨[], by simpa [digs16] using h, rfl, by simp⟩
  | succ n ih =>
    intro X h hB
    obtain ⟨d, hd⟩ := bytes_of (X.take 16) (hB.take 16)
    obtain ⟨s, hs, hl, h16⟩ := ih (X.drop 16) (by simp; omega) (hB.drop 16)
    have hdl : d.length = 16 := by have := congrArg List.length hd; simp at this; omega
    refine ⟨d :: s, ?_, by simp [hl], ?_⟩
    · rw [← List.take_append_drop 16 X, hd, hs]; simp [digs16]
    · intro x hx
      rcases List.mem_cons.1 hx with rfl | hx
      · exact hdl
      · exact h16 x hx
theorem own_parts {w : World} {base : Nat} {e : TypeId} {sz : Nat} {v : Value} {n : Nat} {xs : List Value} (h : w.ownsRow base e sz v n xs) (hn : 0 < n) : ∃ g cap cur, v = .slice (some ⟨g, 0, none⟩) n cap ∧ base ≤ g ∧ w.heap[g]? = some (.cells cur e (0, 0)) ∧ n ≤ cap ∧ cap ≤ maxLen ∧ cur.size = cap * sz ∧ cur.toList.take (n * sz) = xs := by
  rcases h.2 with ⟨_, h0⟩ | ⟨g, cap, cur, hv, hb, hg, hc, hm, hs, ht⟩
  · omega
  · exact ⟨g, cap, cur, hv, hb, hg, hc, hm, hs, ht⟩
theorem own_cut {w : World} {base : Nat} {e : TypeId} {sz g n cap k : Nat} {xs : List Value} (h : w.ownsRow base e sz (.slice (some ⟨g, 0, none⟩) n cap) n xs) (hk : k ≤ n) : w.ownsRow base e sz (.slice (some ⟨g, 0, none⟩) k cap) k (xs.take (k * sz)) := by
  have hmul : k * sz ≤ n * sz := Nat.mul_le_mul_right _ hk
  refine ⟨by rw [List.length_take, h.1]; omega, ?_⟩
  rcases h.2 with ⟨hv, _⟩ | ⟨g', cap', cur, hv, hb, hg, hc, hm, hs, ht⟩
  · cases hv
  · cases hv
    exact .inr ⟨g, cap, cur, rfl, hb, hg, by omega, hm, hs, by rw [← ht, List.take_take, Nat.min_eq_left hmul]⟩
theorem own_set {w w' : World} {base : Nat} {e : TypeId} {sz g n cap i : Nat} {xs : List Value} {cur : Array Value} {u : Value} (h : w.ownsRow base e sz (.slice (some ⟨g, 0, none⟩) n cap) n xs) (hg : w.heap[g]? = some (.cells cur e (0, 0))) (hW : Wrote w w' g (.cells (cur.setIfInBounds i u) e (0, 0))) : w'.ownsRow base e sz (.slice (some ⟨g, 0, none⟩) n cap) n (xs.set i u) := by
  refine ⟨by rw [List.length_set]; exact h.1, ?_⟩
  rcases h.2 with ⟨hv, _⟩ | ⟨g', cap', cur', hv, hb, hg', hc, hm, hs, ht⟩
  · cases hv
  · cases hv
    rw [hg] at hg'
    obtain rfl : cur = cur' := by simpa using hg'
    refine .inr ⟨g, cap, _, rfl, hb, hW.at_, hc, hm, by simpa using hs, ?_⟩
    rw [← ht, Array.toList_setIfInBounds, List.take_set]
/-- Part of a row, of elements of some cells. -/
theorem subn {w : World} {ad : Option Addr} {n c sz k : Nat} {xs : List Value} (h : Rd w ad n c sz xs) (hk : k ≤ n) (_hsz : 0 < sz) : Rd w (if c = k then ad else ad.map (·.add (k * sz))) (n - k) (c - k) sz (xs.drop (k * sz)) := by
  have hl := h.1
  have hn := h.2.1
  have hmul : k * sz ≤ n * sz := Nat.mul_le_mul_right _ hk
  refine ⟨by rw [List.length_drop, hl, Nat.sub_mul], by omega, fun i u hu => ?_⟩
  have hi : k * sz + i < n * sz := by
    have := (List.getElem?_eq_some_iff.1 hu).1
    rw [List.length_drop, hl] at this
    omega
  have hkn : k < n := by
    rcases Nat.lt_or_ge k n with h1 | h1
    · exact h1
    · have : n * sz ≤ k * sz := Nat.mul_le_mul_right _ h1
      omega
  rw [List.getElem?_drop] at hu
  obtain ⟨b, o, rfl, hc⟩ := h.2.2 (k * sz + i) u hu
  rw [if_neg (by omega)]
  exact ⟨b, o + k * sz, by simp [Addr.add_lit], by rw [show o + k * sz + i = o + (k * sz + i) by omega]; exact hc⟩
/-- What Leaves returns. -/
def LvRes (e : Ending) (w' : World) : Prop := ∃ ad c xs, e = .returned (.slice ad xs.length c) ∧ Rs w' ad xs.length c xs ∧ xs.length ≤ 20 ∧ Lv xs ∧ ∀ b o, ad = some ⟨b, o, none⟩ → b < w'.heap.size
def DgRes (n : Nat) (e : Ending) (w' : World) : Prop := ∃ ad c s, e = .returned (.slice ad s.length c) ∧ Rdg w' ad s.length c s ∧ s.length ≤ n ∧ ∀ b o, ad = some ⟨b, o, none⟩ → b < w'.heap.size
theorem dgres {w : World} {base : Nat} {v : Value} {n m : Nat} {X : List Value} (h : w.ownsRow base 44 16 v n X) (hB : AllB X) (hm : n ≤ m) : DgRes m (.returned v) w := by
  obtain ⟨s, rfl, rfl, h16⟩ := digs_of n X h.1 hB
  obtain ⟨ad, c, rfl, hR⟩ := rdg_own h h16
  exact ⟨ad, c, s, rfl, hR, hm, fun b o e => by subst e; exact (h.lt b rfl).2⟩

set_option maxRecDepth 4000 in
set_option maxHeartbeats 1000000 in
theorem c52 (l r : List (List UInt8)) (ad ad2 : Option Addr) (c c2 : Nat) (w0 : World) (hRl : Rdg w0 ad l.length c l) (hRr : Rdg w0 ad2 r.length c2 r) (hln : l.length ≤ 1152921504606846976) :
    Calls Tryd.prog 52 #[.slice ad l.length c, .slice ad2 r.length c2] w0 fun e w' => e = .returned (.bool (decide (l = r))) ∧ Ext w0 w' := by
  refine start 26 Tryd.func52 rfl rfl rfl fun a hk => ?_
  have hB : Ext w0 w0 := Below.refl _ _
  refine wp_seq_k fun K1 hK1 => ?_
  refine wp_region_lit ?_
  refine ls hk rfl rfl rfl (e_assign hk rfl _) fun a hk => ?_
  refine lnil (hK1 _ _ ?_)
  refine wp_seq_k fun K2 hK2 => ?_
  refine wp_seq_k fun K3 hK3 => ?_
  refine wp_region_lit ?_
  refine ls hk rfl rfl rfl (e_move hk rfl _) fun a hk => ?_
  refine ls hk rfl rfl rfl (e_lenS hk rfl Tryd.underlying69 _) fun a hk => ?_
  refine ls hk rfl rfl rfl (e_move hk rfl _) fun a hk => ?_
  refine ls hk rfl rfl rfl (e_lenS hk rfl Tryd.underlying69 _) fun a hk => ?_
  refine ls hk rfl rfl rfl (e_neq hk rfl rfl rfl _) fun a hk => ?_
  refine lnil (hK3 _ _ ?_)
  refine cdB hk rfl (fun hb => ?_) (fun hb => ?_)
  · have hll : ¬ l.length = r.length := by intro h; rw [h] at hb; simp at hb
    refine wp_seq_k fun K4 hK4 => ?_
    refine wp_region_lit ?_
    refine ls hk rfl rfl rfl (e_assign hk rfl _) fun a hk => ?_
    refine lnil (hK4 _ _ ?_)
    refine wp_ret ?_
    simp only [then_ret]
    exact ret1 hk rfl rfl ⟨by rw [decide_eq_false (fun h => hll (by rw [h]))], hB⟩
  · have hll : l.length = r.length := by
      have h : ((l.length : Nat) : Int) = (r.length : Int) := by simpa using hb
      omega
    refine wp_skip (hK2 _ _ ?_)
    refine wp_seq_k fun K5 hK5 => ?_
    refine wp_seq_k fun K6 hK6 => ?_
    refine wp_region_lit ?_
    refine ls hk rfl rfl rfl (e_assign hk rfl _) fun a hk => ?_
    refine lnil (hK6 _ _ ?_)
    refine wp_block ?_
    refine loopN (fun n a w => ∃ i : Nat, n = l.length - i ∧ i ≤ l.length ∧ Kn a 26 [(0, .slice ad l.length c), (1, .slice ad2 r.length c2), (5, I i)] ∧ (Ext w0 w) ∧ (l.take i = r.take i)) (l.length - 0) ?_ fun n a w hI => ?_
    · exact ⟨0, rfl, by omega, hk.sub _ ⟨rfl, rfl, rfl, trivial⟩, hB, by simp⟩
    clear hk hB
    obtain ⟨i, rfl, hi_le, hk, hB, htt⟩ := hI
    refine wp_seq_k fun K7 hK7 => ?_
    refine wp_seq_k fun K8 hK8 => ?_
    refine wp_region_lit ?_
    refine ls hk rfl rfl rfl (e_move hk rfl _) fun a hk => ?_
    refine ls hk rfl rfl rfl (e_move hk rfl _) fun a hk => ?_
    refine ls hk rfl rfl rfl (e_lenS hk rfl Tryd.underlying69 _) fun a hk => ?_
    refine ls hk rfl rfl rfl (e_lss hk rfl rfl rfl _) fun a hk => ?_
    refine lnil (hK8 _ _ ?_)
    refine cdB hk rfl (fun hb => ?_) (fun hb => ?_)
    · have hil : i < l.length := by have := of_decide_eq_true hb; omega
      obtain ⟨b1, o1, rfl, hr1, h16⟩ := (hRl.ext hB).get i hil
      obtain ⟨b2, o2, rfl, hr2, h16b⟩ := (hRr.ext hB).get i (by omega)
      have hx : l[i]? = some (l.getD i []) := by simp [hil]
      have hy : r[i]? = some (r.getD i []) := by simp [show i < r.length by omega]
      refine wp_skip (hK7 _ _ ?_)
      refine wp_seq_k fun K9 hK9 => ?_
      refine wp_block ?_
      refine wp_seq_k fun K10 hK10 => ?_
      refine wp_region_ok (fun _ => True) [0, 0, 0, 1, 0, 0, 0, 1, 0] mixed ?_
      have hB := hB.drew
      refine d0 0 hk rfl (by kernel_rfl) rfl rfl rfl rfl (fun _ => e_move hk rfl _) fun a hk => ?_
      refine d0 1 hk rfl (by kernel_rfl) rfl rfl rfl rfl (fun _ => e_move hk rfl _) fun a hk => ?_
      refine d0 2 hk rfl (by kernel_rfl) rfl rfl rfl rfl (fun _ => e_idxSn i hk rfl rfl Tryd.underlying69 sz44 rfl hil _) fun a hk => ?_
      refine d1 3 hk rfl (by kernel_rfl) rfl rfl rfl rfl (r_ldR44 hk rfl (range_ext (ext_drew _) hr1) h16) fun a hk => ?_
      refine d0 4 hk rfl (by kernel_rfl) rfl rfl rfl rfl (fun _ => e_move hk rfl _) fun a hk => ?_
      refine d0 5 hk rfl (by kernel_rfl) rfl rfl rfl rfl (fun _ => e_move hk rfl _) fun a hk => ?_
      refine d0 6 hk rfl (by kernel_rfl) rfl rfl rfl rfl (fun _ => e_idxSn i hk rfl rfl Tryd.underlying69 sz44 rfl (by omega) _) fun a hk => ?_
      refine d1 7 hk rfl (by kernel_rfl) rfl rfl rfl rfl (r_ldR44 hk rfl (range_ext (ext_drew _) hr2) h16b) fun a hk => ?_
      refine d0 8 hk rfl (by kernel_rfl) rfl rfl rfl rfl (fun _ => e_neA (l := l.getD i []) (r := r.getD i []) hk rfl rfl Tryd.underlying44 Tryd.underlying5 sz5 h16 h16b eg44 rfl _) fun a hk => ?_
      refine okFin (by kernel_rfl) (hK10 _ _ ?_)
      refine cdB hk rfl (fun hb => ?_) (fun hb => ?_)
      · have hne : ¬ l.getD i [] = r.getD i [] := fun h => by rw [decide_eq_true h] at hb; cases hb
        refine wp_seq_k fun K11 hK11 => ?_
        refine wp_region_lit ?_
        refine ls hk rfl rfl rfl (e_assign hk rfl _) fun a hk => ?_
        refine lnil (hK11 _ _ ?_)
        refine wp_ret ?_
        simp only [blk_ret, then_ret]
        exact ret1 hk rfl rfl ⟨by rw [decide_eq_false (fun h => hne (by rw [h]))], hB⟩
      · have heq : l.getD i [] = r.getD i [] := Classical.byContradiction fun h => by rw [decide_eq_false h] at hb; cases hb
        refine wp_skip (hK9 _ _ ?_)
        refine wp_region_lit ?_
        refine ls hk rfl rfl rfl (e_move hk rfl _) fun a hk => ?_
        refine ls hk rfl rfl rfl (e_add hk rfl rfl (i64 (by omega) (by omega)) _) fun a hk => ?_
        refine ls hk rfl rfl rfl (e_assign hk rfl _) fun a hk => ?_
        refine lnil (show ∃ m : Nat, m < _ ∧ _ from ⟨l.length - (i + 1), by omega, i + 1, rfl, by omega, hk.sub _ ⟨rfl, rfl, rfl, trivial⟩, hB, (take_eq_s l r i _ _ hx hy).2 ⟨htt, heq⟩⟩)
    · have hil : i = l.length := by have := of_decide_eq_false hb; omega
      subst hil
      rw [List.take_length, hll, List.take_length] at htt
      refine wp_exit (hK5 _ _ ?_)
      refine wp_seq_k fun K12 hK12 => ?_
      refine wp_region_lit ?_
      refine ls hk rfl rfl rfl (e_assign hk rfl _) fun a hk => ?_
      refine lnil (hK12 _ _ ?_)
      refine wp_ret ?_
      exact ret1 hk rfl rfl ⟨by rw [decide_eq_true htt], hB⟩

theorem lit5s {z : Value} : Instr.fill (fun i => some (i * 1, 1)) ((Array.range (5 * 1)).map (z.cells[· % z.cells.size]!)) [(0, Str []), (1, Str [97]), (2, Str [98]), (3, Str [97, 98]), (4, Str [99])] = some #[Str [], Str [97], Str [98], Str [97, 98], Str [99]] := by
  have key : ∀ cs : Array Value, cs.size = 5 → Instr.fill (fun i => some (i * 1, 1)) cs [(0, Str []), (1, Str [97]), (2, Str [98]), (3, Str [97, 98]), (4, Str [99])] = some #[Str [], Str [97], Str [98], Str [97, 98], Str [99]] := by
    intro cs hcs
    rw [fill_cons _ 0 _ _ rfl (by omega), fill_cons _ 1 _ _ rfl (by simp; omega), fill_cons _ 2 _ _ rfl (by simp; omega), fill_cons _ 3 _ _ rfl (by simp; omega), fill_cons _ 4 _ _ rfl (by simp; omega)]
    obtain ⟨l⟩ := cs
    match l, hcs with
    | [a, b, c, d, e], _ => rfl
  exact key _ (by simp)
theorem tab5_at (k : Nat) (h : k < 5) : ∃ s : List UInt8, (#[Str [], Str [97], Str [98], Str [97, 98], Str [99]] : Array Value)[0 + k]? = some (Str s) ∧ s.length ≤ 2 := by
  match k, h with
  | 0, _ => exact ⟨[], rfl, by decide⟩
  | 1, _ => exact ⟨[97], rfl, by decide⟩
  | 2, _ => exact ⟨[98], rfl, by decide⟩
  | 3, _ => exact ⟨[97, 98], rfl, by decide⟩
  | 4, _ => exact ⟨[99], rfl, by decide⟩

set_option maxRecDepth 4000 in
set_option maxHeartbeats 1000000 in
theorem c44 (l : List Int) (hl64 : ∀ n ∈ l, is64 n) (ad0 : Option Addr) (c0 : Nat) (w0 : World) (hR : Ri w0 ad0 l.length c0 l) :
    Calls Tryd.prog 44 #[.slice ad0 l.length c0] w0 fun e w' => LvRes e w' ∧ Ext w0 w' := by
  refine start 32 Tryd.func44 rfl rfl rfl fun a hk => ?_
  have hB : Ext w0 w0 := Below.refl _ _
  refine wp_seq_k fun K1 hK1 => ?_
  refine wp_region_lit ?_
  refine ls hk rfl rfl rfl (e_assign hk rfl _) fun a hk => ?_
  refine lnil (hK1 _ _ ?_)
  refine wp_seq_k fun K2 hK2 => ?_
  refine wp_region_lit ?_
  refine ls hk rfl rfl rfl (e_assign hk rfl _) fun a hk => ?_
  refine lnil (hK2 _ _ ?_)
  refine wp_seq_k fun K3 hK3 => ?_
  refine wp_region_lit ?_
  refine ls hk rfl rfl rfl (e_move hk rfl _) fun a hk => ?_
  refine la hk rfl (a_call hk rfl rfl (c_fn hk rfl ok92) (c92 l 0 21 ad0 c0 _ (Rd.ext hR hB) hl64) ?_)
  rintro e w ⟨rfl, hE⟩
  refine ⟨_, rfl, fun a hk => ?_⟩
  have hB := ext_trans hB hE
  obtain ⟨n₁, hn₁, hn21⟩ : ∃ k : Nat, atS l 0 21 = k ∧ k ≤ 20 := ⟨(atS l 0 21).toNat, by rw [Int.toNat_of_nonneg (at_pos _ _ _)], by have := at_lt l 0 (most := 21) (by decide); have := at_pos l 0 21; omega⟩
  rw [hn₁] at hk
  clear hE
  refine ls hk rfl rfl rfl (e_assign hk rfl _) fun a hk => ?_
  refine lnil (hK3 _ _ ?_)
  refine wp_seq_k fun K4 hK4 => ?_
  refine wp_seq_k fun K5 hK5 => ?_
  refine wp_region_lit ?_
  refine ls hk rfl rfl rfl (e_assign hk rfl _) fun a hk => ?_
  refine lnil (hK5 _ _ ?_)
  refine wp_block ?_
  refine loopN (fun n a w => ∃ i : Nat, ∃ (v : Value) (xs : List (List UInt8)), n = n₁ - i ∧ i ≤ n₁ ∧ Kn a 32 [(0, .slice ad0 l.length c0), (3, v), (4, I n₁), (5, I i)] ∧ (Ext w0 w) ∧ (w.ownsRow w0.heap.size 9 1 v i (xs.map Str)) ∧ (xs.length = i ∧ ∀ x ∈ xs, x.length ≤ 3)) (n₁ - 0) ?_ fun n a w hI => ?_
  · exact ⟨0, _, [], rfl, by omega, hk.sub _ ⟨rfl, rfl, rfl, rfl, trivial⟩, hB, own_nil, ⟨rfl, by simp⟩⟩
  clear hk hB
  obtain ⟨i, v, xs, rfl, hi_le, hk, hB, hown, hxs⟩ := hI
  refine wp_seq_k fun K6 hK6 => ?_
  refine wp_seq_k fun K7 hK7 => ?_
  refine wp_region_lit ?_
  refine ls hk rfl rfl rfl (e_move hk rfl _) fun a hk => ?_
  refine ls hk rfl rfl rfl (e_move hk rfl _) fun a hk => ?_
  refine ls hk rfl rfl rfl (e_lss hk rfl rfl rfl _) fun a hk => ?_
  refine lnil (hK7 _ _ ?_)
  refine cdB hk rfl (fun hb => ?_) (fun hb => ?_)
  · have hil : i < n₁ := by have := of_decide_eq_true hb; omega
    refine wp_skip (hK6 _ _ ?_)
    refine wp_seq_k fun K8 hK8 => ?_
    refine wp_block ?_
    refine wp_region_ok (fun _ => True) [] mixed ?_
    have hB := hB.drew
    have hown := own_ext hown (ext_drew w)
    refine okFront (fun k => Nat.blt k 17) (fun d a w => ∃ v0 v1 v2 v3 v4 v5 v6 v7 v8 v9 v10 v11 v12 v13 v14 v15 v16 : Value, Kn a 32 [(13, v0), (14, v1), (15, v2), (16, v3), (17, v4), (18, v5), (19, v6), (20, v7), (21, v8), (22, v9), (23, v10), (24, v11), (25, v12), (26, v13), (27, v14), (28, v15), (29, v16), (0, .slice ad0 l.length c0), (3, v), (4, I n₁), (5, I i)] ∧ (Below w0.heap.size w0 w) ∧ (w.ownsRow w0.heap.size 9 1 v i (xs.map Str)) ∧ (d 0 = true → v0 = v) ∧ (d 1 = true → ∃ b, v1 = .slice (some ⟨b, 0, none⟩) 5 5 ∧ w.heap[b]? = some (.cells #[Str [], Str [97], Str [98], Str [97, 98], Str [99]] 9 (0, 0))) ∧ (d 2 = true → v2 = .slice ad0 l.length c0) ∧ (d 3 = true → v3 = I i) ∧ (d 4 = true → v4 = I ((1 + i : Nat) : Int)) ∧ (d 5 = true → ∃ k : Nat, v5 = I k ∧ k < 5) ∧ (d 6 = true → ∃ b k : Nat, v6 = .pointer (some ⟨b, 0 + k, none⟩) ∧ k < 5 ∧ w.heap[b]? = some (.cells #[Str [], Str [97], Str [98], Str [97, 98], Str [99]] 9 (0, 0))) ∧ (d 7 = true → ∃ s : List UInt8, v7 = Str s ∧ s.length ≤ 2) ∧ (d 8 = true → v8 = .slice ad0 l.length c0) ∧ (d 9 = true → v9 = I i) ∧ (d 10 = true → v10 = I ((2 + i : Nat) : Int)) ∧ (d 11 = true → ∃ z : Int, v11 = I z) ∧ (d 12 = true → ∃ y : UInt8, v12 = B y) ∧ (d 13 = true → ∃ ad c y, v13 = .slice ad 1 c ∧ Rd w ad 1 c 1 ([y].map B)) ∧ (d 14 = true → ∃ s : List UInt8, v14 = Str s ∧ s.length ≤ 1) ∧ (d 15 = true → ∃ s : List UInt8, v15 = Str s ∧ s.length ≤ 3) ∧ (d 16 = true → ∃ b s, v16 = .slice (some ⟨b, 0, none⟩) 1 1 ∧ s.length ≤ 3 ∧ w.heap[b]? = some (.cells #[Str s] 9 (0, 0)))) 2 (by kernel_rfl) (fun k hk => Nat.lt_of_lt_of_le (blt_lt hk) (by decide)) ⟨_, _, _, _, _, _, _, _, _, _, _, _, _, _, _, _, _, (((((((((((((((((hk.own 29).own 28).own 27).own 26).own 25).own 24).own 23).own 22).own 21).own 20).own 19).own 18).own 17).own 16).own 15).own 14).own 13).sub _ ⟨rfl, rfl, rfl, rfl, rfl, rfl, rfl, rfl, rfl, rfl, rfl, rfl, rfl, rfl, rfl, rfl, rfl, rfl, rfl, rfl, rfl, trivial⟩, hB, hown, fun h => noF h, fun h => noF h, fun h => noF h, fun h => noF h, fun h => noF h, fun h => noF h, fun h => noF h, fun h => noF h, fun h => noF h, fun h => noF h, fun h => noF h, fun h => noF h, fun h => noF h, fun h => noF h, fun h => noF h, fun h => noF h, fun h => noF h⟩ (fun a w hJ => ?_) ?_
    · obtain ⟨v0, v1, v2, v3, v4, v5, v6, v7, v8, v9, v10, v11, v12, v13, v14, v15, v16, hk, hB, hown, f0, f1, f2, f3, f4, f5, f6, f7, f8, f9, f10, f11, f12, f13, f14, f15, f16⟩ := hJ
      have p0 := f0 rfl
      have p1 := f1 rfl
      have p2 := f2 rfl
      have p3 := f3 rfl
      have p4 := f4 rfl
      have p5 := f5 rfl
      have p6 := f6 rfl
      have p7 := f7 rfl
      have p8 := f8 rfl
      have p9 := f9 rfl
      have p10 := f10 rfl
      have p11 := f11 rfl
      have p12 := f12 rfl
      have p13 := f13 rfl
      have p14 := f14 rfl
      have p15 := f15 rfl
      have p16 := f16 rfl
      obtain ⟨bs, sx, rfl, hsx, h_bs⟩ := p16
      subst p0
      clear p1 p2 p3 p4 p5 p6 p7 p8 p9 p10 p11 p12 p13 p14 p15
      refine da 17 hk rfl (by kernel_rfl) rfl rfl (a_app hk rfl rfl hown rfl (rs_lit1 h_bs) (by simp [Value.oneCell']) Tryd.underlying27 el9 rfl (by decide) (by omega) (by omega) hB.size fun a w v2 hk hown' hKp => ?_)
      have hB := kept_below hKp hB hown (Nat.le_refl _) hB.size
      clear hown
      have hown : w.ownsRow w0.heap.size 9 1 v2 (i + 1) ((xs ++ [sx]).map Str) := by rw [List.map_append]; exact hown'
      clear hown' hKp
      have hxs : (xs ++ [sx]).length = i + 1 ∧ ∀ x ∈ xs ++ [sx], x.length ≤ 3 := ⟨by simp [hxs.1], fun x hx => by rcases List.mem_append.1 hx with h | h; exact hxs.2 x h; rw [List.mem_singleton.1 h]; exact hsx⟩
      refine da 18 hk rfl (by kernel_rfl) rfl rfl (ev_act hk rfl rfl (e_assign hk rfl _) fun a hk => ?_)
      refine okFin (by kernel_rfl) (hK8 _ _ ?_)
      refine wp_region_lit ?_
      refine ls hk rfl rfl rfl (e_move hk rfl _) fun a hk => ?_
      refine ls hk rfl rfl rfl (e_add hk rfl rfl (i64 (by omega) (by omega)) _) fun a hk => ?_
      refine ls hk rfl rfl rfl (e_assign hk rfl _) fun a hk => ?_
      refine lnil (show ∃ m : Nat, m < _ ∧ _ from ⟨n₁ - (i + 1), by omega, i + 1, _, _, rfl, by omega, hk.sub _ ⟨rfl, rfl, rfl, rfl, trivial⟩, hB, hown, hxs⟩)
    refine ⟨?_, ?_, ?_, ?_, ?_, ?_, ?_, ?_, ?_, ?_, ?_, ?_, ?_, ?_, ?_, ?_, ?_, ?_, ?_, trivial⟩
    · intro _ d a w hr hJ
      obtain ⟨v0, v1, v2, v3, v4, v5, v6, v7, v8, v9, v10, v11, v12, v13, v14, v15, v16, hk, hB, hown, f0, f1, f2, f3, f4, f5, f6, f7, f8, f9, f10, f11, f12, f13, f14, f15, f16⟩ := hJ
      refine wa hk rfl rfl ?_
      refine ev_act hk rfl rfl (e_move hk rfl _) fun a hk => ?_
      have new : v = v := rfl
      exact ⟨_, _, _, _, _, _, _, _, _, _, _, _, _, _, _, _, _, hk.sub _ ⟨rfl, rfl, rfl, rfl, rfl, rfl, rfl, rfl, rfl, rfl, rfl, rfl, rfl, rfl, rfl, rfl, rfl, rfl, rfl, rfl, rfl, trivial⟩, hB, hown, fun _ => new, fun h => f1 h, fun h => f2 h, fun h => f3 h, fun h => f4 h, fun h => f5 h, fun h => f6 h, fun h => f7 h, fun h => f8 h, fun h => f9 h, fun h => f10 h, fun h => f11 h, fun h => f12 h, fun h => f13 h, fun h => f14 h, fun h => f15 h, fun h => f16 h⟩
    · intro _ d a w hr hJ
      obtain ⟨v0, v1, v2, v3, v4, v5, v6, v7, v8, v9, v10, v11, v12, v13, v14, v15, v16, hk, hB, hown, f0, f1, f2, f3, f4, f5, f6, f7, f8, f9, f10, f11, f12, f13, f14, f15, f16⟩ := hJ
      refine wa hk rfl rfl ?_
      refine a_lit (cells := #[Str [], Str [97], Str [98], Str [97, 98], Str [99]]) (zv := .string ByteArray.empty) (sz := 1) (by_ := 16) hk rfl rfl Tryd.underlying27 el9 (by decide) (by decide) lit5s rfl fun a w' bl hk GL => ?_
      have hE := GL.ext
      have new : ∃ b, (Value.slice (some ⟨bl, 0, none⟩) 5 5) = .slice (some ⟨b, 0, none⟩) 5 5 ∧ w'.heap[b]? = some (.cells #[Str [], Str [97], Str [98], Str [97, 98], Str [99]] 9 (0, 0)) := ⟨_, rfl, GL.at_⟩
      exact ⟨_, _, _, _, _, _, _, _, _, _, _, _, _, _, _, _, _, hk.sub _ ⟨rfl, rfl, rfl, rfl, rfl, rfl, rfl, rfl, rfl, rfl, rfl, rfl, rfl, rfl, rfl, rfl, rfl, rfl, rfl, rfl, rfl, trivial⟩, ext_trans hB hE, own_ext hown hE, fun h => f0 h, fun _ => new, fun h => f2 h, fun h => f3 h, fun h => f4 h, fun h => f5 h, fun h => by have f := f6 h; exact by obtain ⟨b, k, e, h1, h⟩ := f; exact ⟨b, k, e, h1, ext_at hE h⟩, fun h => f7 h, fun h => f8 h, fun h => f9 h, fun h => f10 h, fun h => f11 h, fun h => f12 h, fun h => by have f := f13 h; exact by obtain ⟨x, y, z, e, h⟩ := f; exact ⟨x, y, z, e, h.ext hE⟩, fun h => f14 h, fun h => f15 h, fun h => by have f := f16 h; exact by obtain ⟨b, s, e, h1, h⟩ := f; exact ⟨b, s, e, h1, ext_at hE h⟩⟩
    · intro _ d a w hr hJ
      obtain ⟨v0, v1, v2, v3, v4, v5, v6, v7, v8, v9, v10, v11, v12, v13, v14, v15, v16, hk, hB, hown, f0, f1, f2, f3, f4, f5, f6, f7, f8, f9, f10, f11, f12, f13, f14, f15, f16⟩ := hJ
      refine wa hk rfl rfl ?_
      refine ev_act hk rfl rfl (e_move hk rfl _) fun a hk => ?_
      have new : Value.slice ad0 l.length c0 = Value.slice ad0 l.length c0 := rfl
      exact ⟨_, _, _, _, _, _, _, _, _, _, _, _, _, _, _, _, _, hk.sub _ ⟨rfl, rfl, rfl, rfl, rfl, rfl, rfl, rfl, rfl, rfl, rfl, rfl, rfl, rfl, rfl, rfl, rfl, rfl, rfl, rfl, rfl, trivial⟩, hB, hown, fun h => f0 h, fun h => f1 h, fun _ => new, fun h => f3 h, fun h => f4 h, fun h => f5 h, fun h => f6 h, fun h => f7 h, fun h => f8 h, fun h => f9 h, fun h => f10 h, fun h => f11 h, fun h => f12 h, fun h => f13 h, fun h => f14 h, fun h => f15 h, fun h => f16 h⟩
    · intro _ d a w hr hJ
      obtain ⟨v0, v1, v2, v3, v4, v5, v6, v7, v8, v9, v10, v11, v12, v13, v14, v15, v16, hk, hB, hown, f0, f1, f2, f3, f4, f5, f6, f7, f8, f9, f10, f11, f12, f13, f14, f15, f16⟩ := hJ
      refine wa hk rfl rfl ?_
      refine ev_act hk rfl rfl (e_move hk rfl _) fun a hk => ?_
      have new : I i = I i := rfl
      exact ⟨_, _, _, _, _, _, _, _, _, _, _, _, _, _, _, _, _, hk.sub _ ⟨rfl, rfl, rfl, rfl, rfl, rfl, rfl, rfl, rfl, rfl, rfl, rfl, rfl, rfl, rfl, rfl, rfl, rfl, rfl, rfl, rfl, trivial⟩, hB, hown, fun h => f0 h, fun h => f1 h, fun h => f2 h, fun _ => new, fun h => f4 h, fun h => f5 h, fun h => f6 h, fun h => f7 h, fun h => f8 h, fun h => f9 h, fun h => f10 h, fun h => f11 h, fun h => f12 h, fun h => f13 h, fun h => f14 h, fun h => f15 h, fun h => f16 h⟩
    · intro _ d a w hr hJ
      obtain ⟨v0, v1, v2, v3, v4, v5, v6, v7, v8, v9, v10, v11, v12, v13, v14, v15, v16, hk, hB, hown, f0, f1, f2, f3, f4, f5, f6, f7, f8, f9, f10, f11, f12, f13, f14, f15, f16⟩ := hJ
      obtain rfl := f3 (rdy_pre hr 3 (by kernel_rfl))
      refine wa hk rfl rfl ?_
      refine ev_act hk rfl rfl (e_add (q := ((1 + i : Nat) : Int)) hk rfl rfl (by rw [i64 (by omega) (by omega)]; omega) _) fun a hk => ?_
      have new : I ((1 + i : Nat) : Int) = I ((1 + i : Nat) : Int) := rfl
      exact ⟨_, _, _, _, _, _, _, _, _, _, _, _, _, _, _, _, _, hk.sub _ ⟨rfl, rfl, rfl, rfl, rfl, rfl, rfl, rfl, rfl, rfl, rfl, rfl, rfl, rfl, rfl, rfl, rfl, rfl, rfl, rfl, rfl, trivial⟩, hB, hown, fun h => f0 h, fun h => f1 h, fun h => f2 h, fun h => f3 h, fun _ => new, fun h => f5 h, fun h => f6 h, fun h => f7 h, fun h => f8 h, fun h => f9 h, fun h => f10 h, fun h => f11 h, fun h => f12 h, fun h => f13 h, fun h => f14 h, fun h => f15 h, fun h => f16 h⟩
    · intro _ d a w hr hJ
      obtain ⟨v0, v1, v2, v3, v4, v5, v6, v7, v8, v9, v10, v11, v12, v13, v14, v15, v16, hk, hB, hown, f0, f1, f2, f3, f4, f5, f6, f7, f8, f9, f10, f11, f12, f13, f14, f15, f16⟩ := hJ
      obtain rfl := f2 (rdy_pre hr 2 (by kernel_rfl))
      obtain rfl := f4 (rdy_pre hr 4 (by kernel_rfl))
      refine wa hk rfl rfl ?_
      refine a_call hk rfl rfl (c_fn hk rfl ok92) (c92 l (((1 + i : Nat) : Int)) _ ad0 c0 _ (Rd.ext hR hB) hl64) ?_
      rintro e w' ⟨rfl, hE⟩
      refine ⟨_, rfl, fun a hk => ?_⟩
      have new : ∃ k : Nat, I (atS l ((1 + i : Nat) : Int) 5) = I k ∧ k < 5 := ⟨(atS l ((1 + i : Nat) : Int) 5).toNat, by rw [Int.toNat_of_nonneg (at_pos _ _ _)], by have := at_lt l ((1 + i : Nat) : Int) (most := 5) (by decide); have := at_pos l ((1 + i : Nat) : Int) 5; omega⟩
      exact ⟨_, _, _, _, _, _, _, _, _, _, _, _, _, _, _, _, _, hk.sub _ ⟨rfl, rfl, rfl, rfl, rfl, rfl, rfl, rfl, rfl, rfl, rfl, rfl, rfl, rfl, rfl, rfl, rfl, rfl, rfl, rfl, rfl, trivial⟩, ext_trans hB hE, own_ext hown hE, fun h => f0 h, fun h => by have f := f1 h; exact by obtain ⟨b, e, h⟩ := f; exact ⟨b, e, ext_at hE h⟩, fun h => f2 h, fun h => f3 h, fun h => f4 h, fun _ => new, fun h => by have f := f6 h; exact by obtain ⟨b, k, e, h1, h⟩ := f; exact ⟨b, k, e, h1, ext_at hE h⟩, fun h => f7 h, fun h => f8 h, fun h => f9 h, fun h => f10 h, fun h => f11 h, fun h => f12 h, fun h => by have f := f13 h; exact by obtain ⟨x, y, z, e, h⟩ := f; exact ⟨x, y, z, e, h.ext hE⟩, fun h => f14 h, fun h => f15 h, fun h => by have f := f16 h; exact by obtain ⟨b, s, e, h1, h⟩ := f; exact ⟨b, s, e, h1, ext_at hE h⟩⟩
    · intro _ d a w hr hJ
      obtain ⟨v0, v1, v2, v3, v4, v5, v6, v7, v8, v9, v10, v11, v12, v13, v14, v15, v16, hk, hB, hown, f0, f1, f2, f3, f4, f5, f6, f7, f8, f9, f10, f11, f12, f13, f14, f15, f16⟩ := hJ
      obtain ⟨bt, rfl, hbt⟩ := f1 (rdy_pre hr 1 (by kernel_rfl))
      obtain ⟨k5, rfl, hk5⟩ := f5 (rdy_pre hr 5 (by kernel_rfl))
      refine wa hk rfl rfl ?_
      refine ev_act hk rfl rfl (e_idxS1 k5 hk rfl rfl Tryd.underlying27 sz9 rfl hk5 _) fun a hk => ?_
      have new : ∃ b k : Nat, (Value.pointer (some ⟨bt, 0 + k5, none⟩)) = .pointer (some ⟨b, 0 + k, none⟩) ∧ k < 5 ∧ w.heap[b]? = some (.cells #[Str [], Str [97], Str [98], Str [97, 98], Str [99]] 9 (0, 0)) := ⟨_, _, rfl, hk5, hbt⟩
      have f1 : d 1 = true → ∃ b, (Value.slice (some ⟨bt, 0, none⟩) 5 5) = .slice (some ⟨b, 0, none⟩) 5 5 ∧ w.heap[b]? = some (.cells #[Str [], Str [97], Str [98], Str [97, 98], Str [99]] 9 (0, 0)) := fun _ => ⟨_, rfl, hbt⟩
      have f5 : d 5 = true → ∃ k : Nat, I ((k5 : Nat) : Int) = I k ∧ k < 5 := fun _ => ⟨_, rfl, hk5⟩
      exact ⟨_, _, _, _, _, _, _, _, _, _, _, _, _, _, _, _, _, hk.sub _ ⟨rfl, rfl, rfl, rfl, rfl, rfl, rfl, rfl, rfl, rfl, rfl, rfl, rfl, rfl, rfl, rfl, rfl, rfl, rfl, rfl, rfl, trivial⟩, hB, hown, fun h => f0 h, fun h => f1 h, fun h => f2 h, fun h => f3 h, fun h => f4 h, fun h => f5 h, fun _ => new, fun h => f7 h, fun h => f8 h, fun h => f9 h, fun h => f10 h, fun h => f11 h, fun h => f12 h, fun h => f13 h, fun h => f14 h, fun h => f15 h, fun h => f16 h⟩
    · intro _ d a w hr hJ
      obtain ⟨v0, v1, v2, v3, v4, v5, v6, v7, v8, v9, v10, v11, v12, v13, v14, v15, v16, hk, hB, hown, f0, f1, f2, f3, f4, f5, f6, f7, f8, f9, f10, f11, f12, f13, f14, f15, f16⟩ := hJ
      obtain ⟨bt, k5, rfl, hk5, hbt⟩ := f6 (rdy_pre hr 6 (by kernel_rfl))
      refine wa hk rfl rfl ?_
      obtain ⟨tx, htx, htl⟩ := tab5_at k5 hk5
      refine ev_act hk rfl rfl (r_load (v := Str tx) hk rfl Tryd.underlying9 rfl hbt htx) fun a hk => ?_
      have new : ∃ s : List UInt8, Str tx = Str s ∧ s.length ≤ 2 := ⟨_, rfl, htl⟩
      have f6 : d 6 = true → ∃ b k : Nat, (Value.pointer (some ⟨bt, 0 + k5, none⟩)) = .pointer (some ⟨b, 0 + k, none⟩) ∧ k < 5 ∧ w.heap[b]? = some (.cells #[Str [], Str [97], Str [98], Str [97, 98], Str [99]] 9 (0, 0)) := fun _ => ⟨_, _, rfl, hk5, hbt⟩
      exact ⟨_, _, _, _, _, _, _, _, _, _, _, _, _, _, _, _, _, hk.sub _ ⟨rfl, rfl, rfl, rfl, rfl, rfl, rfl, rfl, rfl, rfl, rfl, rfl, rfl, rfl, rfl, rfl, rfl, rfl, rfl, rfl, rfl, trivial⟩, hB, hown, fun h => f0 h, fun h => f1 h, fun h => f2 h, fun h => f3 h, fun h => f4 h, fun h => f5 h, fun h => f6 h, fun _ => new, fun h => f8 h, fun h => f9 h, fun h => f10 h, fun h => f11 h, fun h => f12 h, fun h => f13 h, fun h => f14 h, fun h => f15 h, fun h => f16 h⟩
    · intro _ d a w hr hJ
      obtain ⟨v0, v1, v2, v3, v4, v5, v6, v7, v8, v9, v10, v11, v12, v13, v14, v15, v16, hk, hB, hown, f0, f1, f2, f3, f4, f5, f6, f7, f8, f9, f10, f11, f12, f13, f14, f15, f16⟩ := hJ
      refine wa hk rfl rfl ?_
      refine ev_act hk rfl rfl (e_move hk rfl _) fun a hk => ?_
      have new : Value.slice ad0 l.length c0 = Value.slice ad0 l.length c0 := rfl
      exact ⟨_, _, _, _, _, _, _, _, _, _, _, _, _, _, _, _, _, hk.sub _ ⟨rfl, rfl, rfl, rfl, rfl, rfl, rfl, rfl, rfl, rfl, rfl, rfl, rfl, rfl, rfl, rfl, rfl, rfl, rfl, rfl, rfl, trivial⟩, hB, hown, fun h => f0 h, fun h => f1 h, fun h => f2 h, fun h => f3 h, fun h => f4 h, fun h => f5 h, fun h => f6 h, fun h => f7 h, fun _ => new, fun h => f9 h, fun h => f10 h, fun h => f11 h, fun h => f12 h, fun h => f13 h, fun h => f14 h, fun h => f15 h, fun h => f16 h⟩
    · intro _ d a w hr hJ
      obtain ⟨v0, v1, v2, v3, v4, v5, v6, v7, v8, v9, v10, v11, v12, v13, v14, v15, v16, hk, hB, hown, f0, f1, f2, f3, f4, f5, f6, f7, f8, f9, f10, f11, f12, f13, f14, f15, f16⟩ := hJ
      refine wa hk rfl rfl ?_
      refine ev_act hk rfl rfl (e_move hk rfl _) fun a hk => ?_
      have new : I i = I i := rfl
      exact ⟨_, _, _, _, _, _, _, _, _, _, _, _, _, _, _, _, _, hk.sub _ ⟨rfl, rfl, rfl, rfl, rfl, rfl, rfl, rfl, rfl, rfl, rfl, rfl, rfl, rfl, rfl, rfl, rfl, rfl, rfl, rfl, rfl, trivial⟩, hB, hown, fun h => f0 h, fun h => f1 h, fun h => f2 h, fun h => f3 h, fun h => f4 h, fun h => f5 h, fun h => f6 h, fun h => f7 h, fun h => f8 h, fun _ => new, fun h => f10 h, fun h => f11 h, fun h => f12 h, fun h => f13 h, fun h => f14 h, fun h => f15 h, fun h => f16 h⟩
    · intro _ d a w hr hJ
      obtain ⟨v0, v1, v2, v3, v4, v5, v6, v7, v8, v9, v10, v11, v12, v13, v14, v15, v16, hk, hB, hown, f0, f1, f2, f3, f4, f5, f6, f7, f8, f9, f10, f11, f12, f13, f14, f15, f16⟩ := hJ
      obtain rfl := f9 (rdy_pre hr 9 (by kernel_rfl))
      refine wa hk rfl rfl ?_
      refine ev_act hk rfl rfl (e_add (q := ((2 + i : Nat) : Int)) hk rfl rfl (by rw [i64 (by omega) (by omega)]; omega) _) fun a hk => ?_
      have new : I ((2 + i : Nat) : Int) = I ((2 + i : Nat) : Int) := rfl
      exact ⟨_, _, _, _, _, _, _, _, _, _, _, _, _, _, _, _, _, hk.sub _ ⟨rfl, rfl, rfl, rfl, rfl, rfl, rfl, rfl, rfl, rfl, rfl, rfl, rfl, rfl, rfl, rfl, rfl, rfl, rfl, rfl, rfl, trivial⟩, hB, hown, fun h => f0 h, fun h => f1 h, fun h => f2 h, fun h => f3 h, fun h => f4 h, fun h => f5 h, fun h => f6 h, fun h => f7 h, fun h => f8 h, fun h => f9 h, fun _ => new, fun h => f11 h, fun h => f12 h, fun h => f13 h, fun h => f14 h, fun h => f15 h, fun h => f16 h⟩
    · intro _ d a w hr hJ
      obtain ⟨v0, v1, v2, v3, v4, v5, v6, v7, v8, v9, v10, v11, v12, v13, v14, v15, v16, hk, hB, hown, f0, f1, f2, f3, f4, f5, f6, f7, f8, f9, f10, f11, f12, f13, f14, f15, f16⟩ := hJ
      obtain rfl := f8 (rdy_pre hr 8 (by kernel_rfl))
      obtain rfl := f10 (rdy_pre hr 10 (by kernel_rfl))
      refine wa hk rfl rfl ?_
      refine a_call hk rfl rfl (c_fn hk rfl ok92) (c92 l (((2 + i : Nat) : Int)) _ ad0 c0 _ (Rd.ext hR hB) hl64) ?_
      rintro e w' ⟨rfl, hE⟩
      refine ⟨_, rfl, fun a hk => ?_⟩
      have new : ∃ z : Int, I (atS l ((2 + i : Nat) : Int) 256) = I z := ⟨_, rfl⟩
      exact ⟨_, _, _, _, _, _, _, _, _, _, _, _, _, _, _, _, _, hk.sub _ ⟨rfl, rfl, rfl, rfl, rfl, rfl, rfl, rfl, rfl, rfl, rfl, rfl, rfl, rfl, rfl, rfl, rfl, rfl, rfl, rfl, rfl, trivial⟩, ext_trans hB hE, own_ext hown hE, fun h => f0 h, fun h => by have f := f1 h; exact by obtain ⟨b, e, h⟩ := f; exact ⟨b, e, ext_at hE h⟩, fun h => f2 h, fun h => f3 h, fun h => f4 h, fun h => f5 h, fun h => by have f := f6 h; exact by obtain ⟨b, k, e, h1, h⟩ := f; exact ⟨b, k, e, h1, ext_at hE h⟩, fun h => f7 h, fun h => f8 h, fun h => f9 h, fun h => f10 h, fun _ => new, fun h => f12 h, fun h => by have f := f13 h; exact by obtain ⟨x, y, z, e, h⟩ := f; exact ⟨x, y, z, e, h.ext hE⟩, fun h => f14 h, fun h => f15 h, fun h => by have f := f16 h; exact by obtain ⟨b, s, e, h1, h⟩ := f; exact ⟨b, s, e, h1, ext_at hE h⟩⟩
    · intro _ d a w hr hJ
      obtain ⟨v0, v1, v2, v3, v4, v5, v6, v7, v8, v9, v10, v11, v12, v13, v14, v15, v16, hk, hB, hown, f0, f1, f2, f3, f4, f5, f6, f7, f8, f9, f10, f11, f12, f13, f14, f15, f16⟩ := hJ
      obtain ⟨z, rfl⟩ := f11 (rdy_pre hr 11 (by kernel_rfl))
      refine wa hk rfl rfl ?_
      refine ev_act hk rfl rfl (e_conv hk rfl Tryd.underlying3 Tryd.underlying5 (i_b _) _) fun a hk => ?_
      have new : ∃ y : UInt8, B (byteOf z) = B y := ⟨_, rfl⟩
      have f11 : d 11 = true → ∃ z1 : Int, I z = I z1 := fun _ => ⟨_, rfl⟩
      exact ⟨_, _, _, _, _, _, _, _, _, _, _, _, _, _, _, _, _, hk.sub _ ⟨rfl, rfl, rfl, rfl, rfl, rfl, rfl, rfl, rfl, rfl, rfl, rfl, rfl, rfl, rfl, rfl, rfl, rfl, rfl, rfl, rfl, trivial⟩, hB, hown, fun h => f0 h, fun h => f1 h, fun h => f2 h, fun h => f3 h, fun h => f4 h, fun h => f5 h, fun h => f6 h, fun h => f7 h, fun h => f8 h, fun h => f9 h, fun h => f10 h, fun h => f11 h, fun _ => new, fun h => f13 h, fun h => f14 h, fun h => f15 h, fun h => f16 h⟩
    · intro _ d a w hr hJ
      obtain ⟨v0, v1, v2, v3, v4, v5, v6, v7, v8, v9, v10, v11, v12, v13, v14, v15, v16, hk, hB, hown, f0, f1, f2, f3, f4, f5, f6, f7, f8, f9, f10, f11, f12, f13, f14, f15, f16⟩ := hJ
      obtain ⟨y, rfl⟩ := f12 (rdy_pre hr 12 (by kernel_rfl))
      refine wa hk rfl rfl ?_
      refine a_lit (cells := #[B y]) (zv := .int .u8 0) (sz := 1) (by_ := 1) hk rfl rfl Tryd.underlying22 el5 (by decide) (by decide) (lit1 _ _ rfl) rfl fun a w' bl hk GL => ?_
      have hE := GL.ext
      have new : ∃ ad c y, (Value.slice (some ⟨bl, 0, none⟩) 1 1) = .slice ad 1 c ∧ Rd w' ad 1 c 1 ([y].map B) := ⟨_, _, y, rfl, lit_byte _ GL⟩
      have f12 : d 12 = true → ∃ y1 : UInt8, B y = B y1 := fun _ => ⟨_, rfl⟩
      exact ⟨_, _, _, _, _, _, _, _, _, _, _, _, _, _, _, _, _, hk.sub _ ⟨rfl, rfl, rfl, rfl, rfl, rfl, rfl, rfl, rfl, rfl, rfl, rfl, rfl, rfl, rfl, rfl, rfl, rfl, rfl, rfl, rfl, trivial⟩, ext_trans hB hE, own_ext hown hE, fun h => f0 h, fun h => by have f := f1 h; exact by obtain ⟨b, e, h⟩ := f; exact ⟨b, e, ext_at hE h⟩, fun h => f2 h, fun h => f3 h, fun h => f4 h, fun h => f5 h, fun h => by have f := f6 h; exact by obtain ⟨b, k, e, h1, h⟩ := f; exact ⟨b, k, e, h1, ext_at hE h⟩, fun h => f7 h, fun h => f8 h, fun h => f9 h, fun h => f10 h, fun h => f11 h, fun h => f12 h, fun _ => new, fun h => f14 h, fun h => f15 h, fun h => by have f := f16 h; exact by obtain ⟨b, s, e, h1, h⟩ := f; exact ⟨b, s, e, h1, ext_at hE h⟩⟩
    · intro _ d a w hr hJ
      obtain ⟨v0, v1, v2, v3, v4, v5, v6, v7, v8, v9, v10, v11, v12, v13, v14, v15, v16, hk, hB, hown, f0, f1, f2, f3, f4, f5, f6, f7, f8, f9, f10, f11, f12, f13, f14, f15, f16⟩ := hJ
      obtain ⟨ad3, c3, y, rfl, hR3⟩ := f13 (rdy_pre hr 13 (by kernel_rfl))
      refine wa hk rfl rfl ?_
      refine ev_act hk rfl rfl (e_str hk rfl hR3 Tryd.underlying22 Tryd.underlying5 Tryd.underlying9) fun a hk => ?_
      have new : ∃ s : List UInt8, Str [y] = Str s ∧ s.length ≤ 1 := ⟨_, rfl, Nat.le_refl _⟩
      have f13 : d 13 = true → ∃ ad c y1, (Value.slice ad3 1 c3) = .slice ad 1 c ∧ Rd w ad 1 c 1 ([y1].map B) := fun _ => ⟨_, _, y, rfl, hR3⟩
      exact ⟨_, _, _, _, _, _, _, _, _, _, _, _, _, _, _, _, _, hk.sub _ ⟨rfl, rfl, rfl, rfl, rfl, rfl, rfl, rfl, rfl, rfl, rfl, rfl, rfl, rfl, rfl, rfl, rfl, rfl, rfl, rfl, rfl, trivial⟩, hB, hown, fun h => f0 h, fun h => f1 h, fun h => f2 h, fun h => f3 h, fun h => f4 h, fun h => f5 h, fun h => f6 h, fun h => f7 h, fun h => f8 h, fun h => f9 h, fun h => f10 h, fun h => f11 h, fun h => f12 h, fun h => f13 h, fun _ => new, fun h => f15 h, fun h => f16 h⟩
    · intro _ d a w hr hJ
      obtain ⟨v0, v1, v2, v3, v4, v5, v6, v7, v8, v9, v10, v11, v12, v13, v14, v15, v16, hk, hB, hown, f0, f1, f2, f3, f4, f5, f6, f7, f8, f9, f10, f11, f12, f13, f14, f15, f16⟩ := hJ
      obtain ⟨s7, rfl, hs7⟩ := f7 (rdy_pre hr 7 (by kernel_rfl))
      obtain ⟨s14, rfl, hs14⟩ := f14 (rdy_pre hr 14 (by kernel_rfl))
      refine wa hk rfl rfl ?_
      refine ev_act hk rfl rfl (e_sadd hk rfl rfl (by omega) _) fun a hk => ?_
      have new : ∃ s : List UInt8, Str (s7 ++ s14) = Str s ∧ s.length ≤ 3 := ⟨_, rfl, by rw [List.length_append]; omega⟩
      have f7 : d 7 = true → ∃ s : List UInt8, Str s7 = Str s ∧ s.length ≤ 2 := fun _ => ⟨_, rfl, hs7⟩
      have f14 : d 14 = true → ∃ s : List UInt8, Str s14 = Str s ∧ s.length ≤ 1 := fun _ => ⟨_, rfl, hs14⟩
      exact ⟨_, _, _, _, _, _, _, _, _, _, _, _, _, _, _, _, _, hk.sub _ ⟨rfl, rfl, rfl, rfl, rfl, rfl, rfl, rfl, rfl, rfl, rfl, rfl, rfl, rfl, rfl, rfl, rfl, rfl, rfl, rfl, rfl, trivial⟩, hB, hown, fun h => f0 h, fun h => f1 h, fun h => f2 h, fun h => f3 h, fun h => f4 h, fun h => f5 h, fun h => f6 h, fun h => f7 h, fun h => f8 h, fun h => f9 h, fun h => f10 h, fun h => f11 h, fun h => f12 h, fun h => f13 h, fun h => f14 h, fun _ => new, fun h => f16 h⟩
    · intro _ d a w hr hJ
      obtain ⟨v0, v1, v2, v3, v4, v5, v6, v7, v8, v9, v10, v11, v12, v13, v14, v15, v16, hk, hB, hown, f0, f1, f2, f3, f4, f5, f6, f7, f8, f9, f10, f11, f12, f13, f14, f15, f16⟩ := hJ
      obtain ⟨s15, rfl, hs15⟩ := f15 (rdy_pre hr 15 (by kernel_rfl))
      refine wa hk rfl rfl ?_
      refine a_lit (cells := #[Str s15]) (zv := .string ByteArray.empty) (sz := 1) (by_ := 16) hk rfl rfl Tryd.underlying27 el9 (by decide) (by decide) (lit1s _ rfl _) rfl fun a w' bl hk GL => ?_
      have hE := GL.ext
      have new : ∃ b s, (Value.slice (some ⟨bl, 0, none⟩) 1 1) = .slice (some ⟨b, 0, none⟩) 1 1 ∧ s.length ≤ 3 ∧ w'.heap[b]? = some (.cells #[Str s] 9 (0, 0)) := ⟨_, _, rfl, hs15, GL.at_⟩
      have f15 : d 15 = true → ∃ s : List UInt8, Str s15 = Str s ∧ s.length ≤ 3 := fun _ => ⟨_, rfl, hs15⟩
      exact ⟨_, _, _, _, _, _, _, _, _, _, _, _, _, _, _, _, _, hk.sub _ ⟨rfl, rfl, rfl, rfl, rfl, rfl, rfl, rfl, rfl, rfl, rfl, rfl, rfl, rfl, rfl, rfl, rfl, rfl, rfl, rfl, rfl, trivial⟩, ext_trans hB hE, own_ext hown hE, fun h => f0 h, fun h => by have f := f1 h; exact by obtain ⟨b, e, h⟩ := f; exact ⟨b, e, ext_at hE h⟩, fun h => f2 h, fun h => f3 h, fun h => f4 h, fun h => f5 h, fun h => by have f := f6 h; exact by obtain ⟨b, k, e, h1, h⟩ := f; exact ⟨b, k, e, h1, ext_at hE h⟩, fun h => f7 h, fun h => f8 h, fun h => f9 h, fun h => f10 h, fun h => f11 h, fun h => f12 h, fun h => by have f := f13 h; exact by obtain ⟨x, y, z, e, h⟩ := f; exact ⟨x, y, z, e, h.ext hE⟩, fun h => f14 h, fun h => f15 h, fun _ => new⟩
    · intro h; cases h
    · intro h; cases h
  · have hil : i = n₁ := by have := of_decide_eq_false hb; omega
    refine wp_exit (hK4 _ _ ?_)
    refine wp_seq_k fun K9 hK9 => ?_
    refine wp_region_lit ?_
    refine ls hk rfl rfl rfl (e_move hk rfl _) fun a hk => ?_
    refine ls hk rfl rfl rfl (e_assign hk rfl _) fun a hk => ?_
    refine lnil (hK9 _ _ ?_)
    refine wp_ret ?_
    obtain ⟨hx1, hx2⟩ := hxs
    subst hil
    obtain ⟨ad, c, rfl, _, hRr⟩ := Rd.of_own hown
    exact ret1 hk rfl rfl ⟨⟨ad, c, xs, by rw [hx1], by rw [hx1]; exact hRr, by omega, ⟨by omega, fun x hx => by have := hx2 x hx; omega⟩, fun b o e => by subst e; exact (hown.lt b rfl).2⟩, hB⟩

end Go.Proofs.YtidfbboalbchiaaDoor

namespace Go.Proofs.YtidfbboalbchiaaDoor
open Go Go.RowKit

theorem setz (k : Nat) (y : UInt8) : (Value.agg (List.replicate 16 (Value.int .u8 0)).toArray).cells.setIfInBounds (0 + k) (B y) = ((zD.set k y).map B).toArray := by
  simp [Value.cells, zD, List.map_set]
  rfl
theorem b_add (x y : UInt8) : IntKind.u8.wrap ((x.toNat : Int) + y.toNat) = ((x + y).toNat : Int) := by
  rw [wrap8u, UInt8.toNat_add]; omega
theorem own_setR {w w' : World} {base : Nat} {e : TypeId} {sz g n cap o : Nat} {xs ds : List Value} {cur : Array Value} (h : w.ownsRow base e sz (.slice (some ⟨g, 0, none⟩) n cap) n xs) (hg : w.heap[g]? = some (.cells cur e (0, 0))) (ho : o + ds.length ≤ n * sz)
    (hW : Wrote w w' g (.cells (cur.toList.take o ++ ds ++ cur.toList.drop (o + ds.length)).toArray e (0, 0))) : w'.ownsRow base e sz (.slice (some ⟨g, 0, none⟩) n cap) n (xs.take o ++ ds ++ xs.drop (o + ds.length)) := by
  have hxl := h.1
  refine ⟨by simp only [List.length_append, List.length_take, List.length_drop]; omega, ?_⟩
  rcases h.2 with ⟨hv, _⟩ | ⟨g', cap', cur', hv, hb, hg', hc, hm, hs, ht⟩
  · cases hv
  · cases hv
    rw [hg] at hg'
    obtain rfl : cur = cur' := by simpa using hg'
    have hcl : n * sz ≤ cur.toList.length := by
      have := congrArg List.length ht
      rw [List.length_take, hxl] at this
      omega
    refine .inr ⟨g, cap, _, rfl, hb, hW.at_, hc, hm, ?_, ?_⟩
    · simp only [List.size_toArray, List.length_append, List.length_take, List.length_drop]
      have : cur.toList.length = cur.size := by simp
      omega
    · have e1 : (cur.toList.take o ++ ds).length = o + ds.length := by rw [List.length_append, List.length_take]; omega
      simp only
      rw [List.take_append, List.take_of_length_le (show (cur.toList.take o ++ ds).length ≤ n * sz by omega), e1, ← ht, List.take_take, Nat.min_eq_left (by omega), List.drop_take]
theorem slto_some (g cap : Nat) : (if cap = 0 then some (⟨g, 0, none⟩ : Addr) else (some (⟨g, 0, none⟩ : Addr)).map (·.add 0)) = some ⟨g, 0, none⟩ := by
  split
  · rfl
  · simp [Addr.add_lit]

theorem range_wrote {w w' : World} {b g o : Nat} {xs : List Value} {ob : Obj} (h : w.rangeAt b o xs) (hW : Wrote w w' g ob) (hne : b ≠ g) : w'.rangeAt b o xs := fun j u hu => hW.cell hne (h j u hu)

set_option maxRecDepth 4000 in
set_option maxHeartbeats 4000000 in
theorem c54 (l : List (List UInt8)) (at₀ how₀ by₀ : Int) (ha64 : is64 at₀) (hh64 : is64 how₀) (hb64 : is64 by₀) (ad : Option Addr) (c : Nat) (w0 : World) (hRl : Rdg w0 ad l.length c l) (hln : l.length ≤ 1000000) :
    Calls Tryd.prog 54 #[.slice ad l.length c, I at₀, I how₀, I by₀] w0 fun e w' => DgRes (l.length + 1) e w' ∧ Ext w0 w' := by
  refine start 100 Tryd.func54 rfl rfl rfl fun a hk => ?_
  have hB : Ext w0 w0 := Below.refl _ _
  refine wp_seq_k fun K1 hK1 => ?_
  refine wp_region_lit ?_
  refine ls hk rfl rfl rfl (e_assign hk rfl _) fun a hk => ?_
  refine lnil (hK1 _ _ ?_)
  refine wp_seq_k fun K2 hK2 => ?_
  refine wp_region_lit ?_
  refine la hk rfl (a_alloc hk rfl zr44 fun a w b9 hk G => ?_)
  have hg_b9 : w0.heap.size ≤ b9 := Nat.le_trans hB.size G.ge
  have hB := ext_trans hB G.ext
  have h_b9 := G.at_
  clear G
  refine lnil (hK2 _ _ ?_)
  refine wp_seq_k fun K3 hK3 => ?_
  refine wp_region_lit ?_
  refine ls hk rfl rfl rfl (e_move hk rfl _) fun a hk => ?_
  refine la hk rfl (a_call hk rfl rfl (c_fn hk rfl ok45) (c45 by₀ 16 _ hb64) ?_)
  rintro e w ⟨rfl, hE⟩
  refine ⟨_, rfl, fun a hk => ?_⟩
  have h_b9 := ext_at hE h_b9
  have hB := ext_trans hB hE
  obtain ⟨kb, hqkb, hkb⟩ : ∃ k : Nat, aroundS by₀ 16 = k ∧ (k : Int) < 16 := ⟨(aroundS by₀ 16).toNat, by rw [Int.toNat_of_nonneg (around_pos _ _)], by have := around_lt (n := by₀) (most := 16) (by omega); have := around_pos by₀ 16; omega⟩
  rw [hqkb] at hk
  clear hE
  refine ls hk rfl rfl rfl (e_move hk rfl _) fun a hk => ?_
  refine ls hk rfl rfl rfl (e_conv hk rfl Tryd.underlying3 Tryd.underlying5 (i_b _) _) fun a hk => ?_
  refine ls hk rfl rfl rfl (e_idxA1 kb hk rfl rfl Tryd.underlying44 sz5 rfl (by omega) _) fun a hk => ?_
  refine la hk rfl (a_store hk rfl rfl rfl sz5 h_b9 (by simp [Value.cells]; omega) fun a w hk W => ?_)
  have hB := W.below hB hg_b9
  have h_b9 := W.at_
  clear W
  rw [setz] at h_b9
  obtain ⟨dd, hdd, hde⟩ : ∃ d : List UInt8, d.length = 16 ∧ zD.set kb (byteOf by₀) = d := ⟨_, by simp, rfl⟩
  rw [hde] at h_b9
  refine lnil (hK3 _ _ ?_)
  refine wp_seq_k fun K4 hK4 => ?_
  refine wp_seq_k fun K5 hK5 => ?_
  refine wp_region_lit ?_
  refine ls hk rfl rfl rfl (e_move hk rfl _) fun a hk => ?_
  refine ls hk rfl rfl rfl (e_lenS hk rfl Tryd.underlying69 _) fun a hk => ?_
  refine ls hk rfl rfl rfl (e_eql hk rfl rfl rfl _) fun a hk => ?_
  refine lnil (hK5 _ _ ?_)
  refine cdB hk rfl (fun hb => ?_) (fun hb => ?_)
  · have h0 : l.length = 0 := by have := of_decide_eq_true hb; omega
    refine wp_seq_k fun K6 hK6 => ?_
    refine wp_region_lit ?_
    refine ls hk rfl rfl rfl (r_ld44 hk rfl h_b9 hdd) fun a hk => ?_
    refine la hk rfl (a_lit (cells := ((dd).map B).toArray) (sz := 16) (by_ := 16) hk rfl rfl Tryd.underlying69 el44 (by decide) (by decide) (lit44 _ rfl _ (by simp [*])) (by simp [*]) fun a w bl hk G => ?_)
    have n_b9_bl : b9 ≠ bl := G.ne h_b9
    have hg_bl : w0.heap.size ≤ bl := Nat.le_trans hB.size G.ge
    have h_b9 := ext_at G.ext h_b9
    have hB := ext_trans hB G.ext
    have h_bl := G.at_
    clear G
    refine ls hk rfl rfl rfl (e_assign hk rfl _) fun a hk => ?_
    refine lnil (hK6 _ _ ?_)
    refine wp_ret ?_
    simp only [then_ret]
    exact ret1 hk rfl rfl ⟨⟨_, _, [dd], rfl, rdg_lit h_bl hdd, by simp, fun b o e => by cases e; exact heap_lt h_bl⟩, hB⟩
  · have h0 : 0 < l.length := by have := of_decide_eq_false hb; omega
    refine wp_skip (hK4 _ _ ?_)
    refine wp_seq_k fun K7 hK7 => ?_
    refine wp_region_lit ?_
    refine ls hk rfl rfl rfl (e_move hk rfl _) fun a hk => ?_
    refine ls hk rfl rfl rfl (e_move hk rfl _) fun a hk => ?_
    refine ls hk rfl rfl rfl (e_lenS hk rfl Tryd.underlying69 _) fun a hk => ?_
    refine la hk rfl (a_call hk rfl rfl (c_fn hk rfl ok45) (c45 at₀ l.length _ ha64) ?_)
    rintro e w ⟨rfl, hE⟩
    refine ⟨_, rfl, fun a hk => ?_⟩
    have h_b9 := ext_at hE h_b9
    have hB := ext_trans hB hE
    obtain ⟨k1, hqk1, hk1⟩ : ∃ k : Nat, aroundS at₀ (l.length : Int) = k ∧ (k : Int) < (l.length : Int) := ⟨(aroundS at₀ (l.length : Int)).toNat, by rw [Int.toNat_of_nonneg (around_pos _ _)], by have := around_lt (n := at₀) (most := (l.length : Int)) (by omega); have := around_pos at₀ (l.length : Int); omega⟩
    rw [hqk1] at hk
    clear hE
    refine ls hk rfl rfl rfl (e_assign hk rfl _) fun a hk => ?_
    refine lnil (hK7 _ _ ?_)
    refine wp_seq_k fun K8 hK8 => ?_
    refine wp_region_lit ?_
    refine la hk rfl (a_lit0 (sz := 16) (by_ := 16) hk rfl Tryd.underlying69 el44 fun a w bq hk GL => ?_)
    have hown : w.ownsRow w0.heap.size 44 16 (.slice (some ⟨bq, 0, none⟩) 0 0) 0 [] := own_mono (lit_own (n := 0) (sz := 16) GL rfl (by decide)) hB.size
    have h_b9 := ext_at GL.ext h_b9
    have hn9 : b9 ≠ bq := by have h1 := heap_lt h_b9; exact GL.ne (by first | assumption)
    have hB := ext_trans hB GL.ext
    clear GL
    refine ls hk rfl rfl rfl (e_move hk rfl _) fun a hk => ?_
    refine la hk rfl (a_app (news := digs16 l) (by_ := 16) hk rfl rfl hown rfl (hRl.ext hB).1 (allB_digs l).one Tryd.underlying69 el44 rfl (by decide) (by omega) (by omega) hB.size fun a w v hk hown2 hKp => ?_)
    have h_b9 := kept_at hKp hown (by simp [Value.ownBlock]; exact fun e => hn9 e.symm) h_b9
    have hB := kept_below hKp hB hown (Nat.le_refl _) hB.size
    clear hown hKp
    rw [List.nil_append, Nat.zero_add] at hown2
    have hown := hown2
    clear hown2
    obtain ⟨X, hX⟩ : ∃ X, X = digs16 l := ⟨_, rfl⟩
    rw [← hX] at hown
    have hAX : AllB X := by rw [hX]; exact allB_digs l
    have hXl := hown.1
    obtain ⟨gb, cap, cur, rfl, hgb, hcur, hncap, hcapm, hcurs, hcurt⟩ := own_parts hown h0
    refine ls hk rfl rfl rfl (e_assign hk rfl _) fun a hk => ?_
    refine lnil (hK8 _ _ ?_)
    refine wp_seq_k fun K9 hK9 => ?_
    refine wp_seq_k fun K10 hK10 => ?_
    refine wp_region_lit ?_
    refine ls hk rfl rfl rfl (e_move hk rfl _) fun a hk => ?_
    refine la hk rfl (a_call hk rfl rfl (c_fn hk rfl ok45) (c45 how₀ 5 _ hh64) ?_)
    rintro e w ⟨rfl, hE⟩
    refine ⟨_, rfl, fun a hk => ?_⟩
    have h_b9 := ext_at hE h_b9
    have hown := own_ext hown hE
    have hcur := ext_at hE hcur
    have hB := ext_trans hB hE
    clear hE
    refine lnil (hK10 _ _ ?_)
    refine wp_block ?_
    refine wp_seq_k fun K11 hK11 => ?_
    refine wp_region_lit ?_
    refine ls hk rfl rfl rfl (e_eql hk rfl rfl rfl _) fun a hk => ?_
    refine ls hk rfl rfl rfl (e_assign hk rfl _) fun a hk => ?_
    refine lnil (hK11 _ _ ?_)
    refine cdB hk rfl (fun hb => ?_) (fun hb => ?_)
    · refine wp_region_ok (fun _ => True) [0, 0, 0, 2, 0, 0, 0, 2, 0, 0, 1, 0, 0, 0, 2] mixed ?_
      have hB := hB.drew
      have h_b9 := ext_at (ext_drew w) h_b9
      have hown := own_ext hown (ext_drew w)
      have hcur := ext_at (ext_drew w) hcur
      refine d0 0 hk rfl (by kernel_rfl) rfl rfl rfl rfl (fun _ => e_move hk rfl _) fun a hk => ?_
      refine d0 1 hk rfl (by kernel_rfl) rfl rfl rfl rfl (fun _ => e_move hk rfl _) fun a hk => ?_
      refine d0 2 hk rfl (by kernel_rfl) rfl rfl rfl rfl (fun _ => e_move hk rfl _) fun a hk => ?_
      refine da 3 hk rfl (by kernel_rfl) rfl rfl (a_call hk rfl rfl (c_fn hk rfl ok45) (c45 by₀ 16 _ hb64) ?_)
      rintro e w ⟨rfl, hE⟩
      refine ⟨_, rfl, fun a hk => ?_⟩
      have h_b9 := ext_at hE h_b9
      have hown := own_ext hown hE
      have hcur := ext_at hE hcur
      have hB := ext_trans hB hE
      rw [hqkb] at hk
      clear hE
      refine d0 4 hk rfl (by kernel_rfl) rfl rfl rfl rfl (fun _ => e_move hk rfl _) fun a hk => ?_
      refine d0 5 hk rfl (by kernel_rfl) rfl rfl rfl rfl (fun _ => e_move hk rfl _) fun a hk => ?_
      refine d0 6 hk rfl (by kernel_rfl) rfl rfl rfl rfl (fun _ => e_move hk rfl _) fun a hk => ?_
      refine da 7 hk rfl (by kernel_rfl) rfl rfl (a_call hk rfl rfl (c_fn hk rfl ok45) (c45 by₀ 16 _ hb64) ?_)
      rintro e w ⟨rfl, hE⟩
      refine ⟨_, rfl, fun a hk => ?_⟩
      have h_b9 := ext_at hE h_b9
      have hown := own_ext hown hE
      have hcur := ext_at hE hcur
      have hB := ext_trans hB hE
      rw [hqkb] at hk
      obtain ⟨y, hy⟩ : ∃ y : UInt8, cur[0 + k1 * 16 + kb]? = some (B y) := by
        have h1 : k1 * 16 + kb < X.length := by omega
        obtain ⟨y, hy⟩ := hAX _ (List.getElem_mem h1)
        refine ⟨y, ?_⟩
        have h2 : X[k1 * 16 + kb]? = some (B y) := by rw [List.getElem?_eq_getElem h1, hy]
        rw [← hcurt, List.getElem?_take] at h2
        split at h2
        · rw [Nat.zero_add]; simpa using h2
        · cases h2
      clear hE
      refine d0 8 hk rfl (by kernel_rfl) rfl rfl rfl rfl (fun _ => e_idxSn k1 hk rfl rfl Tryd.underlying69 sz44 rfl (by omega) _) fun a hk => ?_
      refine d0 9 hk rfl (by kernel_rfl) rfl rfl rfl rfl (fun _ => e_idxA1 kb hk rfl rfl Tryd.underlying44 sz5 rfl (by omega) _) fun a hk => ?_
      refine d1 10 hk rfl (by kernel_rfl) rfl rfl rfl rfl (r_load hk rfl Tryd.underlying5 rfl hcur hy) fun a hk => ?_
      refine d0 11 hk rfl (by kernel_rfl) rfl rfl rfl rfl (fun _ => e_add hk rfl rfl (b_add y 1) _) fun a hk => ?_
      refine d0 12 hk rfl (by kernel_rfl) rfl rfl rfl rfl (fun _ => e_idxSn k1 hk rfl rfl Tryd.underlying69 sz44 rfl (by omega) _) fun a hk => ?_
      refine d0 13 hk rfl (by kernel_rfl) rfl rfl rfl rfl (fun _ => e_idxA1 kb hk rfl rfl Tryd.underlying44 sz5 rfl (by omega) _) fun a hk => ?_
      refine da 14 hk rfl (by kernel_rfl) rfl rfl (a_store hk rfl rfl rfl sz5 hcur (by rw [hcurs]; omega) fun a w hk W => ?_)
      have hown := own_set hown hcur W
      have hAX := hAX.set (0 + k1 * 16 + kb) (y + 1)
      have hB := W.below hB hgb
      clear W hcur hcurs hcurt
      refine okFin (by kernel_rfl) (hK9 _ _ ?_)
      refine wp_seq_k fun K12 hK12 => ?_
      refine wp_region_lit ?_
      refine ls hk rfl rfl rfl (e_move hk rfl _) fun a hk => ?_
      refine ls hk rfl rfl rfl (e_assign hk rfl _) fun a hk => ?_
      refine lnil (hK12 _ _ ?_)
      refine wp_ret ?_
      first
        | exact ret1 hk rfl rfl ⟨dgres hown hAX (by omega), hB⟩
        | (simp only [blk_ret, then_ret]; exact ret1 hk rfl rfl ⟨dgres hown2 hAX2 (by omega), hB⟩)
        | (simp only [blk_ret, then_ret]; exact ret1 hk rfl rfl ⟨dgres hown2 hAX2 (by simp; omega), hB⟩)
    · refine wp_seq_k fun K13 hK13 => ?_
      refine wp_region_lit ?_
      refine ls hk rfl rfl rfl (e_eql hk rfl rfl rfl _) fun a hk => ?_
      refine ls hk rfl rfl rfl (e_assign hk rfl _) fun a hk => ?_
      refine lnil (hK13 _ _ ?_)
      refine cdB hk rfl (fun hb => ?_) (fun hb => ?_)
      · refine wp_seq_k fun K14 hK14 => ?_
        refine wp_region_ok (fun _ => True) [0, 0, 0, 0, 0, 0, 0, 2, 0] mixed ?_
        have hB := hB.drew
        have h_b9 := ext_at (ext_drew w) h_b9
        have hown := own_ext hown (ext_drew w)
        have hcur := ext_at (ext_drew w) hcur
        refine d0 0 hk rfl (by kernel_rfl) rfl rfl rfl rfl (fun _ => e_move hk rfl _) fun a hk => ?_
        refine d0 1 hk rfl (by kernel_rfl) rfl rfl rfl rfl (fun _ => e_move hk rfl _) fun a hk => ?_
        refine d0 2 hk rfl (by kernel_rfl) rfl rfl rfl rfl (fun _ => e_slSto hk rfl rfl Tryd.underlying69 sz44 (by omega) (by omega) _) fun a hk => ?_
        rw [slto_some, Int.toNat_natCast] at hk
        refine d0 3 hk rfl (by kernel_rfl) rfl rfl rfl rfl (fun _ => e_move hk rfl _) fun a hk => ?_
        refine d0 4 hk rfl (by kernel_rfl) rfl rfl rfl rfl (fun _ => e_move hk rfl _) fun a hk => ?_
        refine d0 5 hk rfl (by kernel_rfl) rfl rfl rfl rfl (fun _ => e_add (q := ((k1 + 1 : Nat) : Int)) hk rfl rfl (by rw [i64 (by omega) (by omega)]; omega) _) fun a hk => ?_
        refine d0 6 hk rfl (by kernel_rfl) rfl rfl rfl rfl (fun _ => e_slSfrom hk rfl rfl Tryd.underlying69 sz44 (by omega) (by omega) _) fun a hk => ?_
        have hRk := subn (hRl.ext hB).1 (k := k1 + 1) (by omega) (by decide)
        rw [Int.toNat_natCast] at hk
        generalize (if c = k1 + 1 then ad else ad.map (·.add ((k1 + 1) * 16))) = adk at hk hRk
        refine da 7 hk rfl (by kernel_rfl) rfl rfl (a_app (by_ := 16) hk rfl rfl (own_cut hown (by omega : k1 ≤ l.length)) rfl hRk ((allB_digs l).drop _).one Tryd.underlying69 el44 rfl (by decide) (by omega) (by omega) hB.size fun a w v hk hown2 hKp => ?_)
        have hB := kept_below hKp hB (own_cut hown (by omega : k1 ≤ l.length)) (Nat.le_refl _) hB.size
        have hAX2 := (hAX.take (k1 * 16)).append ((allB_digs l).drop ((k1 + 1) * 16))
        clear hown hKp hRk
        refine d0 8 hk rfl (by kernel_rfl) rfl rfl rfl rfl (fun _ => e_assign hk rfl _) fun a hk => ?_
        refine okFin (by kernel_rfl) (hK14 _ _ ?_)
        refine wp_ret ?_
        first
          | exact ret1 hk rfl rfl ⟨dgres hown hAX (by omega), hB⟩
          | (simp only [blk_ret, then_ret]; exact ret1 hk rfl rfl ⟨dgres hown2 hAX2 (by omega), hB⟩)
          | (simp only [blk_ret, then_ret]; exact ret1 hk rfl rfl ⟨dgres hown2 hAX2 (by simp; omega), hB⟩)
      · refine wp_seq_k fun K15 hK15 => ?_
        refine wp_region_lit ?_
        refine ls hk rfl rfl rfl (e_eql hk rfl rfl rfl _) fun a hk => ?_
        refine ls hk rfl rfl rfl (e_assign hk rfl _) fun a hk => ?_
        refine lnil (hK15 _ _ ?_)
        refine cdB hk rfl (fun hb => ?_) (fun hb => ?_)
        · refine wp_seq_k fun K16 hK16 => ?_
          refine wp_region_ok (fun _ => True) [0, 0, 0, 1, 2, 2, 0, 0, 0, 2, 0] mixed ?_
          have hB := hB.drew
          have h_b9 := ext_at (ext_drew w) h_b9
          have hown := own_ext hown (ext_drew w)
          have hcur := ext_at (ext_drew w) hcur
          refine d0 0 hk rfl (by kernel_rfl) rfl rfl rfl rfl (fun _ => e_move hk rfl _) fun a hk => ?_
          refine d0 1 hk rfl (by kernel_rfl) rfl rfl rfl rfl (fun _ => e_move hk rfl _) fun a hk => ?_
          refine d0 2 hk rfl (by kernel_rfl) rfl rfl rfl rfl (fun _ => e_slSto hk rfl rfl Tryd.underlying69 sz44 (by omega) (by omega) _) fun a hk => ?_
          rw [slto_some, Int.toNat_natCast] at hk
          refine d1 3 hk rfl (by kernel_rfl) rfl rfl rfl rfl (r_ld44 hk rfl h_b9 hdd) fun a hk => ?_
          refine da 4 hk rfl (by kernel_rfl) rfl rfl (a_lit (cells := (dd.map B).toArray) (sz := 16) (by_ := 16) hk rfl rfl Tryd.underlying69 el44 (by decide) (by decide) (lit44 _ rfl dd hdd) (by simp [hdd]) fun a w bl hk GL => ?_)
          have hown := own_ext hown GL.ext
          have hB := ext_trans hB GL.ext
          have hRd := (rdg_lit GL.at_ hdd).1
          clear GL
          refine da 5 hk rfl (by kernel_rfl) rfl rfl (a_app (by_ := 16) hk rfl rfl (own_cut hown (by omega : k1 ≤ l.length)) rfl hRd (allB_digs [dd]).one Tryd.underlying69 el44 rfl (by decide) (by omega) (by omega) hB.size fun a w v hk hown2 hKp => ?_)
          have hB := kept_below hKp hB (own_cut hown (by omega : k1 ≤ l.length)) (Nat.le_refl _) hB.size
          have hAX := (hAX.take (k1 * 16)).append (allB_digs [dd])
          clear hown hKp hRd
          have hown := hown2
          clear hown2
          refine d0 6 hk rfl (by kernel_rfl) rfl rfl rfl rfl (fun _ => e_move hk rfl _) fun a hk => ?_
          refine d0 7 hk rfl (by kernel_rfl) rfl rfl rfl rfl (fun _ => e_move hk rfl _) fun a hk => ?_
          refine d0 8 hk rfl (by kernel_rfl) rfl rfl rfl rfl (fun _ => e_slSfrom hk rfl rfl Tryd.underlying69 sz44 (by omega) (by omega) _) fun a hk => ?_
          have hRk := subn (hRl.ext hB).1 (k := k1) (by omega) (by decide)
          rw [Int.toNat_natCast] at hk
          generalize (if c = k1 then ad else ad.map (·.add (k1 * 16))) = adk at hk hRk
          refine da 9 hk rfl (by kernel_rfl) rfl rfl (a_app (by_ := 16) hk rfl rfl hown rfl hRk ((allB_digs l).drop _).one Tryd.underlying69 el44 rfl (by decide) (by omega) (by omega) hB.size fun a w v2 hk hown2 hKp => ?_)
          have hB := kept_below hKp hB hown (Nat.le_refl _) hB.size
          have hAX2 := hAX.append ((allB_digs l).drop (k1 * 16))
          clear hown hKp hRk
          refine d0 10 hk rfl (by kernel_rfl) rfl rfl rfl rfl (fun _ => e_assign hk rfl _) fun a hk => ?_
          refine okFin (by kernel_rfl) (hK16 _ _ ?_)
          refine wp_ret ?_
          first
            | exact ret1 hk rfl rfl ⟨dgres hown hAX (by omega), hB⟩
            | (simp only [blk_ret, then_ret]; exact ret1 hk rfl rfl ⟨dgres hown2 hAX2 (by omega), hB⟩)
            | (simp only [blk_ret, then_ret]; exact ret1 hk rfl rfl ⟨dgres hown2 hAX2 (by simp; omega), hB⟩)
        · refine wp_seq_k fun K17 hK17 => ?_
          refine wp_region_lit ?_
          refine ls hk rfl rfl rfl (e_eql hk rfl rfl rfl _) fun a hk => ?_
          refine ls hk rfl rfl rfl (e_assign hk rfl _) fun a hk => ?_
          refine lnil (hK17 _ _ ?_)
          refine cdB hk rfl (fun hb => ?_) (fun hb => ?_)
          · refine wp_seq_k fun K18 hK18 => ?_
            obtain ⟨bla, ola, heaa, hrga, hda⟩ := (hRl.ext hB).get (k1) (by omega)
            subst heaa
            refine wp_region_lit ?_
            refine ls hk rfl rfl rfl (e_move hk rfl _) fun a hk => ?_
            refine ls hk rfl rfl rfl (e_move hk rfl _) fun a hk => ?_
            refine ls hk rfl rfl rfl (e_move hk rfl _) fun a hk => ?_
            refine ls hk rfl rfl rfl (e_idxSn k1 hk rfl rfl Tryd.underlying69 sz44 rfl (by omega) _) fun a hk => ?_
            refine ls hk rfl rfl rfl (r_ldR44 hk rfl hrga hda) fun a hk => ?_
            refine la hk rfl (a_lit (cells := ((l.getD k1 []).map B).toArray) (sz := 16) (by_ := 16) hk rfl rfl Tryd.underlying69 el44 (by decide) (by decide) (lit44 _ rfl _ hda) (by rw [List.size_toArray, List.length_map, hda]) fun a w bl hk GL => ?_)
            have hown := own_ext hown GL.ext
            have hB := ext_trans hB GL.ext
            have hRd := (rdg_lit GL.at_ hda).1
            clear GL
            refine la hk rfl (a_app (by_ := 16) hk rfl rfl hown rfl hRd (allB_digs [l.getD k1 []]).one Tryd.underlying69 el44 rfl (by decide) (by omega) (by omega) hB.size fun a w v hk hown2 hKp => ?_)
            have hB := kept_below hKp hB hown (Nat.le_refl _) hB.size
            have hAX2 := hAX.append (allB_digs [l.getD k1 []])
            clear hown hKp hRd
            refine ls hk rfl rfl rfl (e_assign hk rfl _) fun a hk => ?_
            refine lnil (hK18 _ _ ?_)
            refine wp_ret ?_
            first
              | exact ret1 hk rfl rfl ⟨dgres hown hAX (by omega), hB⟩
              | (simp only [blk_ret, then_ret]; exact ret1 hk rfl rfl ⟨dgres hown2 hAX2 (by omega), hB⟩)
              | (simp only [blk_ret, then_ret]; exact ret1 hk rfl rfl ⟨dgres hown2 hAX2 (by simp; omega), hB⟩)
          · refine wp_seq_k fun K19 hK19 => ?_
            refine wp_region_lit ?_
            refine ls hk rfl rfl rfl (e_move hk rfl _) fun a hk => ?_
            refine ls hk rfl rfl rfl (e_add (q := ((k1 + 1 : Nat) : Int)) hk rfl rfl (by rw [i64 (by omega) (by omega)]; omega) _) fun a hk => ?_
            refine ls hk rfl rfl rfl (e_move hk rfl _) fun a hk => ?_
            refine ls hk rfl rfl rfl (e_lenS hk rfl Tryd.underlying69 _) fun a hk => ?_
            refine ls hk rfl rfl rfl (e_lss hk rfl rfl rfl _) fun a hk => ?_
            refine lnil (hK19 _ _ ?_)
            refine cdB hk rfl (fun hb => ?_) (fun hb => ?_)
            · have hk1l : k1 + 1 < l.length := by have := of_decide_eq_true hb; omega
              refine wp_seq_k fun K20 hK20 => ?_
              obtain ⟨bla, ola, heaa, hrga, hda⟩ := (hRl.ext hB).get (k1 + 1) (by omega)
              obtain ⟨blb, olb, heab, hrgb, hdb⟩ := (hRl.ext hB).get (k1) (by omega)
              subst heaa
              cases heab
              refine wp_region_lit ?_
              refine ls hk rfl rfl rfl (e_move hk rfl _) fun a hk => ?_
              refine ls hk rfl rfl rfl (e_move hk rfl _) fun a hk => ?_
              refine ls hk rfl rfl rfl (e_move hk rfl _) fun a hk => ?_
              refine ls hk rfl rfl rfl (e_move hk rfl _) fun a hk => ?_
              refine ls hk rfl rfl rfl (e_add (q := ((k1 + 1 : Nat) : Int)) hk rfl rfl (by rw [i64 (by omega) (by omega)]; omega) _) fun a hk => ?_
              refine ls hk rfl rfl rfl (e_idxSn (k1 + 1) hk rfl rfl Tryd.underlying69 sz44 rfl hk1l _) fun a hk => ?_
              refine ls hk rfl rfl rfl (r_ldR44 hk rfl hrga hda) fun a hk => ?_
              refine ls hk rfl rfl rfl (e_idxSn k1 hk rfl rfl Tryd.underlying69 sz44 rfl (by omega) _) fun a hk => ?_
              refine la hk rfl (a_storeR (xs := (l.getD (k1 + 1) []).map B) hk rfl rfl (bytes_one _) (by rw [sz44, List.length_map, hda]) hcur (by rw [hcurs, List.length_map, hda]; omega) fun a w hk W => ?_)
              have hgne : bla ≠ gb := fun e => by
                obtain ⟨b1, o1, e1, c1⟩ := hRl.1.2.2 0 _ (digs16_get l hRl.2 0 0 h0 (by decide))
                cases e1
                have h2 : bla < w0.heap.size := World.block_lt_of_cell? w0 _ c1
                omega
              have hown := own_setR hown hcur (by rw [List.length_map, hda]; omega) W
              have hAX := ((hAX.take (0 + k1 * 16)).append (allB_map (l.getD (k1 + 1) []))).append (hAX.drop (0 + k1 * 16 + ((l.getD (k1 + 1) []).map B).length))
              have hrgb := range_wrote hrgb W hgne
              have hB := W.below hB hgb
              have hcur := W.at_
              have hcurs2 : (cur.toList.take (0 + k1 * 16) ++ (l.getD (k1 + 1) []).map B ++ cur.toList.drop (0 + k1 * 16 + ((l.getD (k1 + 1) []).map B).length)).toArray.size = cap * 16 := by
                rw [List.size_toArray, List.length_append, List.length_append, List.length_take, List.length_drop, List.length_map, hda, Array.length_toList]; omega
              clear W hcurt
              refine lnil (hK20 _ _ ?_)
              refine wp_region_lit ?_
              refine ls hk rfl rfl rfl (e_move hk rfl _) fun a hk => ?_
              refine ls hk rfl rfl rfl (e_move hk rfl _) fun a hk => ?_
              refine ls hk rfl rfl rfl (e_add (q := ((k1 + 1 : Nat) : Int)) hk rfl rfl (by rw [i64 (by omega) (by omega)]; omega) _) fun a hk => ?_
              refine ls hk rfl rfl rfl (e_move hk rfl _) fun a hk => ?_
              refine ls hk rfl rfl rfl (e_move hk rfl _) fun a hk => ?_
              refine ls hk rfl rfl rfl (e_idxSn k1 hk rfl rfl Tryd.underlying69 sz44 rfl (by omega) _) fun a hk => ?_
              refine ls hk rfl rfl rfl (r_ldR44 hk rfl hrgb hdb) fun a hk => ?_
              refine ls hk rfl rfl rfl (e_idxSn (k1 + 1) hk rfl rfl Tryd.underlying69 sz44 rfl hk1l _) fun a hk => ?_
              refine la hk rfl (a_storeR (xs := (l.getD k1 []).map B) hk rfl rfl (bytes_one _) (by rw [sz44, List.length_map, hdb]) hcur (by rw [hcurs2, List.length_map, hdb]; omega) fun a w hk W => ?_)
              have hown := own_setR hown hcur (by rw [List.length_map, hdb]; omega) W
              have hAX := ((hAX.take (0 + (k1 + 1) * 16)).append (allB_map (l.getD k1 []))).append (hAX.drop (0 + (k1 + 1) * 16 + ((l.getD k1 []).map B).length))
              have hB := W.below hB hgb
              refine lnil (hK9 _ _ ?_)
              refine wp_seq_k fun K21 hK21 => ?_
              refine wp_region_lit ?_
              refine ls hk rfl rfl rfl (e_move hk rfl _) fun a hk => ?_
              refine ls hk rfl rfl rfl (e_assign hk rfl _) fun a hk => ?_
              refine lnil (hK21 _ _ ?_)
              refine wp_ret ?_
              first
                | exact ret1 hk rfl rfl ⟨dgres hown hAX (by omega), hB⟩
                | (simp only [blk_ret, then_ret]; exact ret1 hk rfl rfl ⟨dgres hown2 hAX2 (by omega), hB⟩)
                | (simp only [blk_ret, then_ret]; exact ret1 hk rfl rfl ⟨dgres hown2 hAX2 (by simp; omega), hB⟩)
            · refine wp_skip (hK9 _ _ ?_)
              refine wp_seq_k fun K22 hK22 => ?_
              refine wp_region_lit ?_
              refine ls hk rfl rfl rfl (e_move hk rfl _) fun a hk => ?_
              refine ls hk rfl rfl rfl (e_assign hk rfl _) fun a hk => ?_
              refine lnil (hK22 _ _ ?_)
              refine wp_ret ?_
              first
                | exact ret1 hk rfl rfl ⟨dgres hown hAX (by omega), hB⟩
                | (simp only [blk_ret, then_ret]; exact ret1 hk rfl rfl ⟨dgres hown2 hAX2 (by omega), hB⟩)
                | (simp only [blk_ret, then_ret]; exact ret1 hk rfl rfl ⟨dgres hown2 hAX2 (by simp; omega), hB⟩)

end Go.Proofs.YtidfbboalbchiaaDoor

namespace Go.Proofs.YtidfbboalbchiaaDoor

theorem rootI_pre (xs : List (List UInt8)) (k : Nat) : rootI xs 0 k = rootS (xs.take k) := by unfold rootI cut; rw [List.drop_zero]
theorem rootI_suf (xs : List (List UInt8)) (k : Nat) : rootI xs k xs.length = rootS (xs.drop k) := by unfold rootI cut; rw [List.take_length]
theorem rootI_all (xs : List (List UInt8)) : rootI xs 0 xs.length = rootS xs := by rw [rootI_pre, List.take_length]
/-- Digests that are the roots of the stops, from a place on. -/
def Good (xs : List (List UInt8)) (l : List (List UInt8)) (S : List (Nat × Nat)) (c : Nat) : Prop := ∀ i p, S[i]? = some p → l.getD (c + i) zD = rootI xs p.1 p.2
theorem Good.left {xs l : List (List UInt8)} {S T : List (Nat × Nat)} {c : Nat} (h : Good xs l (S ++ T) c) : Good xs l S c := fun i p hp => h i p (by
  have := (List.getElem?_eq_some_iff.1 hp).1
  rw [List.getElem?_append_left this]; exact hp)
theorem Good.right {xs l : List (List UInt8)} {S T : List (Nat × Nat)} {c : Nat} (h : Good xs l (S ++ T) c) : Good xs l T (c + S.length) := fun i p hp => by
  have := h (S.length + i) p (by rw [List.getElem?_append_right (by omega), Nat.add_sub_cancel_left]; exact hp)
  rw [Nat.add_assoc]; exact this
theorem good_roots (xs : List (List UInt8)) (S : List (Nat × Nat)) : Good xs (rootsOf xs S) S 0 := fun i p hp => by
  simp [rootsOf, hp]
/-- The walk finds the roots. -/
theorem chk_roots (st : Nat → Nat → Bool) (lf : Nat → List UInt8) (xs l : List (List UInt8)) (hlf : ∀ a, a < xs.length → st a (a + 1) = false → lf a = leafS (xs.getD a [])) : ∀ a b, a < b → b ≤ xs.length → ∀ c, Good xs l (stopsS st a b) c → (chkS st lf l a b c).1 = rootI xs a b := by
  apply walk_ind
  intro a b hab ih hb c hg
  cases hs : st a b with
  | true =>
    rw [chk_stop hs]
    rw [stops_stop hs] at hg
    simpa using hg 0 (a, b) rfl
  | false =>
    by_cases h2 : 2 ≤ b - a
    · have h3 := hlf_lt h2
      have h4 := hlf_pos (b - a)
      rw [stops_more hs h2] at hg
      rw [chk_more hs h2, chk_count st lf l _ _ (by omega), rootI_more xs a b h2 hb, (ih h2).1 (by omega) c hg.left, (ih h2).2 hb _ hg.right]
    · have e : b = a + 1 := by omega
      subst e
      rw [chk_one hs (by omega), rootI_one xs a (by omega), hlf a (by omega) hs]
theorem old_roots (n : Nat) (xs l : List (List UInt8)) : ∀ a b, a < b → b ≤ xs.length → a < n → n ≤ b → ∀ c, Good xs l (stopsS (farB n) a b) c → oldC (farB n) l n a b c = rootS (cut xs a n) := by
  apply walk_ind
  intro a b hab ih hb han hnb c hg
  cases hs : farB n a b with
  | true =>
    rw [old_stop hs]
    rw [stops_stop hs] at hg
    have e : b = n := by unfold farB at hs; simp at hs; omega
    have := hg 0 (a, b) rfl
    rw [Nat.add_zero] at this
    rw [this, ← e]; rfl
  | false =>
    have h2 : 2 ≤ b - a := by unfold farB at hs; simp at hs; omega
    have h3 := hlf_lt h2
    have h4 := hlf_pos (b - a)
    have h5 := hlf_ge h2
    rw [stops_more hs h2] at hg
    by_cases hn : n ≤ a + hlf (b - a)
    · rw [old_left hs h2 hn]
      exact (ih h2).1 (by omega) han hn c hg.left
    · have hst : farB n a (a + hlf (b - a)) = true := by unfold farB; simp; omega
      rw [old_both hs h2 hn, (ih h2).2 hb (by omega) hnb _ (by rw [chk_count _ _ _ _ _ (by omega)]; exact hg.right)]
      rw [chk_roots (farB n) (fun _ => zD) xs l (fun q _ h => by unfold farB at h; simp at h; omega) a (a + hlf (b - a)) (by omega) (by omega) c hg.left]
      have hl : hlf (n - a) = hlf (b - a) := by
        obtain ⟨j, hj⟩ : ∃ j, hlf (b - a) = 2 ^ j := ⟨_, rfl⟩
        rw [hj]
        exact hlf_is (.inr (by omega)) (by omega)
      have hc := length_cut xs a n (by omega)
      rw [rootS_more (ls := cut xs a n) (by rw [hc]; omega), hc, hl, cut_take _ _ _ _ (by omega), cut_drop]
      rfl
theorem cut_getD (xs : List (List UInt8)) (f t a : Nat) (h : f ≤ a) (ha : a < t) : (cut xs f t).getD (a - f) [] = xs.getD a [] := by
  unfold cut
  rw [List.getD_eq_getElem?_getD, List.getD_eq_getElem?_getD, List.getElem?_drop, List.getElem?_take, if_pos (by omega), show f + (a - f) = a by omega]
/-- Check accepts what Prove returns. -/
theorem prove_ok (xs : List (List UInt8)) (hL : xs.length ≤ 1073741824) (f t : Nat) (hft : f < t) (ht : t ≤ xs.length) : chkR (rootS xs) xs.length f (provR xs f t).nodes (cut xs f t) = 0 := by
  have hcl := length_cut xs f t ht
  have e : provR xs f t = ⟨xs.length, f, rootsOf xs (restS f t 0 xs.length), 0⟩ := by unfold provR; rw [if_neg (by omega)]; rfl
  rw [e, chkR_ok (by omega), if_pos]
  have e2 : f + (cut xs f t).length = t := by omega
  rw [e2]
  refine ⟨?_, ?_⟩
  · rw [chk_count _ _ _ _ _ (by omega), Nat.zero_add, rootsOf_len]; rfl
  · refine (chk_roots (outI f t) _ xs (rootsOf xs (restS f t 0 xs.length)) (fun a ha h => ?_) 0 xs.length (by omega) (Nat.le_refl _) 0 (good_roots xs _)).trans (rootI_all xs)
    unfold outI at h
    simp at h
    rw [cut_getD xs f t a (by omega) (by omega)]
/-- Extends accepts what Longer returns. -/
theorem long_ok (xs : List (List UInt8)) (hL : xs.length ≤ 1073741824) (n : Nat) (hn : n ≤ xs.length) : extR (rootS (xs.take n)) (rootS xs) n xs.length (longR xs n).1 = 0 := by
  by_cases h0 : xs.length = 0
  · have e : longR xs n = ([ofD 2 []], 0) := by unfold longR; rw [if_neg (by omega), if_pos h0]
    have hx : xs = [] := List.length_eq_zero_iff.1 h0
    rw [ext_none hn h0, if_pos]
    rw [e]
    subst hx
    rw [List.take_nil, rootS_nil]
    exact ⟨rfl, rfl, rfl, rfl⟩
  · have e : longR xs n = (rootsOf xs (stepsS n 0 xs.length), 0) := by unfold longR; rw [if_neg (by omega), if_neg h0]; rfl
    rw [ext_some hn h0 hL, if_pos]
    rw [e]
    refine ⟨?_, ?_, ?_⟩
    · rw [chk_count _ _ _ _ _ (by omega), Nat.zero_add, rootsOf_len]; rfl
    · exact (chk_roots (farB n) _ xs (rootsOf xs (stepsS n 0 xs.length)) (fun a ha h => by unfold farB at h; simp at h; omega) 0 xs.length (by omega) (Nat.le_refl _) 0 (good_roots xs _)).trans (rootI_all xs)
    · by_cases hn0 : n = 0
      · rw [if_pos hn0, hn0, List.take_zero, rootS_nil]
      · rw [if_neg hn0]
        exact (old_roots n xs (rootsOf xs (stepsS n 0 xs.length)) 0 xs.length (by omega) (Nat.le_refl _) (by omega) hn 0 (good_roots xs _)).trans (by unfold cut; rw [List.drop_zero])
/-- Steps are short. -/
theorem steps_short (n : Nat) : ∀ a b, a < b → ∀ d, b - a ≤ 2 ^ d → (stepsS n a b).length ≤ d + 1 := by
  unfold stepsS
  apply walk_ind
  intro a b hab ih d hd
  cases hs : farB n a b with
  | true => rw [stops_stop hs]; simp
  | false =>
    have h2 : 2 ≤ b - a := by unfold farB at hs; simp at hs; omega
    have h3 := hlf_lt h2
    have h4 := hlf_pos (b - a)
    cases d with
    | zero => simp at hd; omega
    | succ d =>
      obtain ⟨h5, h6⟩ := hlf_le h2 hd
      rw [stops_more hs h2, List.length_append]
      by_cases hn : n ≤ a + hlf (b - a)
      · rw [stops_stop (show farB n (a + hlf (b - a)) b = true by unfold farB; simp; omega)]
        have := (ih h2).1 d (by omega)
        simp; omega
      · rw [stops_stop (show farB n a (a + hlf (b - a)) = true by unfold farB; simp; omega)]
        have := (ih h2).2 d (by omega)
        simp; omega
theorem rest_left (f t : Nat) : ∀ a b, a < b → f ≤ a → ∀ d, b - a ≤ 2 ^ d → a < t → (restS f t a b).length ≤ d := by
  unfold restS
  apply walk_ind
  intro a b hab ih hf d hd hat
  by_cases hbt : b ≤ t
  · rw [show stopsS (outI f t) a b = [] from rest_in f t a b hab hf hbt]; simp
  · have hs : outI f t a b = false := by unfold outI; simp; omega
    have h2 : 2 ≤ b - a := by omega
    have h3 := hlf_lt h2
    have h4 := hlf_pos (b - a)
    cases d with
    | zero => simp at hd; omega
    | succ d =>
      obtain ⟨h5, h6⟩ := hlf_le h2 hd
      rw [stops_more hs h2, List.length_append]
      by_cases hn : t ≤ a + hlf (b - a)
      · rw [stops_stop (show outI f t (a + hlf (b - a)) b = true by unfold outI; simp; omega)]
        have := (ih h2).1 hf d (by omega) hat
        simp; omega
      · rw [show stopsS (outI f t) a (a + hlf (b - a)) = [] from rest_in f t a _ (by omega) hf (by omega)]
        have := (ih h2).2 (by omega) d (by omega) (by omega)
        simp; omega
theorem rest_right (f t : Nat) : ∀ a b, a < b → b ≤ t → ∀ d, b - a ≤ 2 ^ d → f < b → (restS f t a b).length ≤ d := by
  unfold restS
  apply walk_ind
  intro a b hab ih ht d hd hfb
  by_cases hfa : f ≤ a
  · rw [show stopsS (outI f t) a b = [] from rest_in f t a b hab hfa ht]; simp
  · have hs : outI f t a b = false := by unfold outI; simp; omega
    have h2 : 2 ≤ b - a := by omega
    have h3 := hlf_lt h2
    have h4 := hlf_pos (b - a)
    cases d with
    | zero => simp at hd; omega
    | succ d =>
      obtain ⟨h5, h6⟩ := hlf_le h2 hd
      rw [stops_more hs h2, List.length_append]
      by_cases hn : a + hlf (b - a) ≤ f
      · rw [stops_stop (show outI f t a (a + hlf (b - a)) = true by unfold outI; simp; omega)]
        have := (ih h2).2 ht d (by omega) hfb
        simp; omega
      · rw [show stopsS (outI f t) (a + hlf (b - a)) b = [] from rest_in f t _ b (by omega) (by omega) ht]
        have := (ih h2).1 (by omega) d (by omega) (by omega)
        simp; omega
/-- Proofs are short. -/
theorem rest_short (f t : Nat) (hft : f < t) : ∀ a b, a < b → ∀ d, b - a ≤ 2 ^ d → f < b → a < t → a ≤ f → t ≤ b → (restS f t a b).length ≤ 2 * d := by
  unfold restS
  apply walk_ind
  intro a b hab ih d hd hfb hat haf htb
  by_cases hin : f ≤ a ∧ b ≤ t
  · rw [show stopsS (outI f t) a b = [] from rest_in f t a b hab hin.1 hin.2]; simp
  · have hs : outI f t a b = false := by unfold outI; simp; omega
    have h2 : 2 ≤ b - a := by omega
    have h3 := hlf_lt h2
    have h4 := hlf_pos (b - a)
    cases d with
    | zero => simp at hd; omega
    | succ d =>
      obtain ⟨h5, h6⟩ := hlf_le h2 hd
      rw [stops_more hs h2, List.length_append]
      by_cases h7 : t ≤ a + hlf (b - a)
      · rw [stops_stop (show outI f t (a + hlf (b - a)) b = true by unfold outI; simp; omega)]
        have := (ih h2).1 d (by omega) (by omega) hat haf h7
        simp; omega
      · by_cases h8 : a + hlf (b - a) ≤ f
        · rw [stops_stop (show outI f t a (a + hlf (b - a)) = true by unfold outI; simp; omega)]
          have := (ih h2).2 d (by omega) hfb (by omega) h8 htb
          simp; omega
        · have h9 : (stopsS (outI f t) a (a + hlf (b - a))).length ≤ d := rest_right f t a _ (by omega) (by omega) d (by omega) (by omega)
          have h10 : (stopsS (outI f t) (a + hlf (b - a)) b).length ≤ d := rest_left f t _ b (by omega) (by omega) d (by omega) (by omega)
          omega
/-- The root of two leaves or more. -/
theorem root_two {xs : List (List UInt8)} (h : 2 ≤ xs.length) : rootS xs = nodeS (rootS (xs.take (hlf xs.length))) (rootS (xs.drop (hlf xs.length))) := rootS_more h
end Go.Proofs.YtidfbboalbchiaaDoor

namespace Go.Proofs.YtidfbboalbchiaaDoor
open Go Go.RowKit

/-- Whom an operation waits for, as bits: L is the list of the earlier ones' masks, the last one first. -/
def maskOf (o : Oper) (j : Nat) (L : List Nat) : Nat :=
  o.after.toList.foldl (fun m e => if Region.binds .any e && Nat.blt e.on j then m ||| (1 <<< e.on ||| L.getD (j - 1 - e.on) 0) else m) 0
def ancK : List Oper → Nat → List Nat → (List Nat → Bool) → Bool
  | [], _, L, k => k L
  | o :: r, j, L, k => fc (maskOf o j L) fun m => ancK r (j + 1) (m :: L) k
def ancR : List Oper → Nat → List Nat → List Nat
  | [], _, L => L
  | o :: r, j, L => ancR r (j + 1) (maskOf o j L :: L)
theorem ancK_eq : ∀ (l : List Oper) (j : Nat) (L : List Nat) (k : List Nat → Bool), ancK l j L k = k (ancR l j L) := by
  intro l
  induction l with
  | nil => intro j L k; rfl
  | cons o r ih => intro j L k; rw [ancK, fc_eq, ih]; rfl
theorem waits_mono {ops : Array Oper} : ∀ (n m j i : Nat), n ≤ m → waitsB ops n j i = true → waitsB ops m j i = true := by
  intro n
  induction n with
  | zero => intro m j i _ h; simp [waitsB] at h
  | succ n ih =>
    intro m j i hm h
    obtain ⟨m, rfl⟩ : ∃ k, m = k + 1 := ⟨m - 1, by omega⟩
    unfold waitsB at h ⊢
    cases ho : ops[j]? with
    | none => simp [ho] at h
    | some o =>
      simp only [ho] at h ⊢
      obtain ⟨e, he, hb⟩ := Array.any_eq_true'.1 h
      refine Array.any_eq_true'.2 ⟨e, he, ?_⟩
      simp only [Bool.and_eq_true, Bool.or_eq_true] at hb ⊢
      exact ⟨hb.1, hb.2.imp id (ih m _ _ (by omega))⟩
theorem fold_bit (f : Edge → Bool) (g : Edge → Nat) (i : Nat) : ∀ (l : List Edge) (m : Nat), (l.foldl (fun m e => if f e then m ||| g e else m) m).testBit i = true → m.testBit i = true ∨ ∃ e ∈ l, f e = true ∧ (g e).testBit i = true := by
  intro l
  induction l with
  | nil => intro m h; exact .inl h
  | cons e r ih =>
    intro m h
    rw [List.foldl_cons] at h
    rcases ih _ h with h1 | ⟨e', he', h1⟩
    · cases hf : f e with
      | false => rw [hf] at h1; exact .inl (by simpa using h1)
      | true =>
        rw [hf, if_pos rfl, Nat.testBit_or, Bool.or_eq_true] at h1
        rcases h1 with h1 | h1
        · exact .inl h1
        · exact .inr ⟨e, List.mem_cons_self .., hf, h1⟩
    · exact .inr ⟨e', List.mem_cons_of_mem _ he', h1⟩
theorem anc_inv {ops : Array Oper} : ∀ (l : List Oper) (j : Nat) (L : List Nat), ops.toList.drop j = l → L.length = j → (∀ q, q < j → ∀ i, (L.getD (j - 1 - q) 0).testBit i = true → waitsB ops (q + 1) q i = true) →
    (ancR l j L).length = j + l.length ∧ ∀ q, q < j + l.length → ∀ i, ((ancR l j L).getD (j + l.length - 1 - q) 0).testBit i = true → waitsB ops (q + 1) q i = true := by
  intro l
  induction l with
  | nil => intro j L _ hL h; exact ⟨by simp [ancR, hL], by simpa [ancR] using h⟩
  | cons o r ih =>
    intro j L hd hL h
    have hj : ops.toList[j]? = some o := by
      have := congrArg (fun l => l[0]?) hd
      simpa using this
    have hj' : ops[j]? = some o := by simpa using hj
    have hr : ops.toList.drop (j + 1) = r := by
      have := congrArg List.tail hd
      simpa [List.tail_drop] using this
    have := ih (j + 1) (maskOf o j L :: L) hr (by simp [hL]) (fun q hq i hb => ?_)
    · simp only [ancR, List.length_cons]
      rw [show j + (r.length + 1) = j + 1 + r.length by omega]
      exact this
    · by_cases hqj : q = j
      · subst hqj
        rw [show q + 1 - 1 - q = 0 by omega] at hb
        simp only [List.getD_cons_zero] at hb
        rcases fold_bit _ _ i _ _ hb with h1 | ⟨e, he, hf, h1⟩
        · simp at h1
        · obtain ⟨hf1, hf2⟩ := Bool.and_eq_true_iff.1 hf
          have hlt : e.on < q := by rw [Nat.blt_eq] at hf2; exact hf2
          unfold waitsB
          rw [hj']
          refine Array.any_eq_true'.2 ⟨e, by simpa using he, ?_⟩
          simp only [Bool.and_eq_true, Bool.or_eq_true]
          refine ⟨hf1, ?_⟩
          rw [Nat.testBit_or, Bool.or_eq_true] at h1
          rcases h1 with h1 | h1
          · left
            rw [Nat.one_shiftLeft, Nat.testBit_two_pow] at h1
            have := of_decide_eq_true h1
            rw [this]; exact Nat.beq_refl _
          · right
            exact waits_mono (e.on + 1) q _ _ (by omega) (h e.on hlt i h1)
      · rw [show j + 1 - 1 - q = (j - 1 - q) + 1 by omega, List.getD_cons_succ] at hb
        exact h q (by omega) i hb
/-- A bit says that it waits. -/
theorem waits_of_anc {ops : Array Oper} {j i : Nat} (hj : j < ops.size) (h : ((ancR ops.toList 0 []).getD (ops.size - 1 - j) 0).testBit i = true) : waitsB ops ops.size j i = true := by
  have := (anc_inv (ops := ops) ops.toList 0 [] (by simp) rfl (fun q hq => by omega)).2 j (by simpa using hj) i (by simpa using h)
  exact waits_mono _ _ _ _ (by omega) this
def ok2N (ops : Array Oper) (cl : List Nat) (R : List Nat) (i j : Nat) : Bool :=
  (R.getD (ops.size - 1 - j) 0).testBit i || match ops[i]?, ops[j]? with
    | some oi, some oj => oi.apart ops oj && commB (clAt cl i) (clAt cl j)
    | _, _ => true
def chkN (ops : Array Oper) (cl : List Nat) (d : Nat → Bool) (i : Nat) : Bool :=
  closedB ops d && selB ops && rdyB ops d i && ancK ops.toList 0 [] fun R => (List.range ops.size).all fun j => Nat.beq j i || d j || ok2N ops cl R i j
theorem chkN_ok {ops : Array Oper} {cl : List Nat} {d : Nat → Bool} {i : Nat} (h : chkN ops cl d i = true) : chkB ops cl d i = true := by
  unfold chkN at h
  unfold chkB
  rw [Bool.and_eq_true_iff] at h ⊢
  refine ⟨h.1, ?_⟩
  have h2 := h.2
  rw [ancK_eq] at h2
  refine List.all_eq_true.2 fun j hj => ?_
  have h3 := List.all_eq_true.1 h2 j hj
  rw [Bool.or_eq_true] at h3 ⊢
  refine h3.imp id fun h4 => ?_
  unfold ok2N at h4
  unfold ok2
  rw [Bool.or_eq_true] at h4 ⊢
  exact h4.imp (waits_of_anc (List.mem_range.1 hj)) id
def frontN (ops : Array Oper) (D : Nat → Bool) : Bool :=
  ancK ops.toList 0 [] fun R => (List.range ops.size).all fun i => D i || ((List.range ops.size).all fun j => !D j || (R.getD (ops.size - 1 - i) 0).testBit j) || (List.range ops.size).any fun j => !D j && (R.getD (ops.size - 1 - i) 0).testBit j
theorem frontN_ok {ops : Array Oper} {D : Nat → Bool} {r : Nat} (h : (fwdB ops && onB ops && frontN ops D && Nat.beq (left D ops.size) r) = true) : (fwdB ops && onB ops && frontB ops D && Nat.beq (left D ops.size) r) = true := by
  simp only [Bool.and_eq_true] at h ⊢
  refine ⟨⟨h.1.1, ?_⟩, h.2⟩
  have h2 := h.1.2
  unfold frontN at h2
  rw [ancK_eq] at h2
  unfold frontB
  refine List.all_eq_true.2 fun i hi => ?_
  have h3 := List.all_eq_true.1 h2 i hi
  simp only [Bool.or_eq_true] at h3 ⊢
  have hlt := List.mem_range.1 hi
  rcases h3 with (h3 | h3) | h3
  · exact .inl (.inl h3)
  · refine .inl (.inr (List.all_eq_true.2 fun j hj => ?_))
    have h4 := List.all_eq_true.1 h3 j hj
    rw [Bool.or_eq_true] at h4 ⊢
    exact h4.imp id (waits_of_anc hlt)
  · obtain ⟨j, hj, h4⟩ := List.any_eq_true.1 h3
    refine .inr (List.any_eq_true.2 ⟨j, hj, ?_⟩)
    rw [Bool.and_eq_true] at h4 ⊢
    exact ⟨h4.1, waits_of_anc hlt h4.2⟩
end Go.Proofs.YtidfbboalbchiaaDoor
