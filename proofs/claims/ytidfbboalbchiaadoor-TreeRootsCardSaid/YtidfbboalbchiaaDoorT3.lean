/- Part 3 of the texts that a claim's last texts stand on: Inv, A7, A8, A9, Up, D, Tree, Eval. Conditions: those that each theorem names. -/
import Derived.Test.YtidfbboalbchiaaDoorT1
import Derived.Test.YtidfbboalbchiaaDoorT2
import Derived.ProofKit
import Derived.LaidMore
import Derived.OpenShut
import Derived.Stop.Joined
import Derived.ShutString
import Derived.ChangeOld
import Derived.Below
import Derived.KernelRfl
namespace Go.Proofs.YtidfbboalbchiaaDoor
open Go Go.RowKit

section
variable {P : Program} {ops : Array Oper} {S : World → Prop} {cl : List Nat} {Z : Act → World → Prop}

/-- Every operation of the list meets Q. -/
def AllOps (Q : Nat → Oper → Prop) : Nat → List Oper → Prop
  | _, [] => True
  | i, o :: r => Q i o ∧ AllOps Q (i + 1) r
theorem allOps_get {Q : Nat → Oper → Prop} : ∀ (l : List Oper) (k i : Nat) (o : Oper), AllOps Q k l → l[i]? = some o → Q (k + i) o := by
  intro l
  induction l with
  | nil => intro k i o _ h; simp at h
  | cons x r ih =>
    intro k i o hA h
    cases i with
    | zero => simp at h; subst h; exact hA.1
    | succ i => rw [show k + (i + 1) = k + 1 + i by omega]; exact ih (k + 1) i o hA.2 (by simpa using h)

/-- The operation waits for that one. -/
def edgeB (ops : Array Oper) (i j : Nat) : Bool :=
  match ops[i]? with
  | some o => o.after.toList.any fun e => Region.binds .any e && Nat.beq e.on j
  | none => false
theorem rdy_pre {d : Nat → Bool} {i : Nat} (h : rdyB ops d i = true) (j : Nat) (hj : edgeB ops i j = true) : d j = true := by
  obtain ⟨o, ho, _, he⟩ := rdy_iff.1 h
  unfold edgeB at hj
  rw [ho] at hj
  obtain ⟨e, hm, hq⟩ := List.any_eq_true.1 hj
  obtain ⟨hb, hq⟩ := Bool.and_eq_true_iff.1 hq
  have hm : e ∈ o.after := by simpa using hm
  rw [← Nat.eq_of_beq_eq_true hq]
  exact he e hm hb
theorem rdy_not {d : Nat → Bool} {i : Nat} (h : rdyB ops d i = true) : d i = false := by obtain ⟨_, _, h, _⟩ := rdy_iff.1 h; exact h

/-- How many of the first m are not done. -/
def left (d : Nat → Bool) : Nat → Nat
  | 0 => 0
  | m + 1 => left d m + bif d m then 0 else 1
theorem left_none (m : Nat) : left (fun _ => false) m = m := by
  induction m with
  | zero => rfl
  | succ m ih => simp [left, ih]
theorem left_upd_ge (d : Nat → Bool) (i m : Nat) (h : m ≤ i) : left (upd d i) m = left d m := by
  induction m with
  | zero => rfl
  | succ m ih => rw [left, left, ih (by omega), upd_ne (by omega)]
theorem left_upd {d : Nat → Bool} {i : Nat} (hd : d i = false) (m : Nat) (h : i < m) : left (upd d i) m + 1 = left d m := by
  induction m with
  | zero => omega
  | succ m ih =>
    rw [left, left]
    by_cases he : i = m
    · subst he; rw [left_upd_ge _ _ _ (Nat.le_refl _), upd_self, hd]; rfl
    · have := ih (by omega)
      rw [upd_ne (by omega)]
      omega
theorem left_zero {d : Nat → Bool} (m : Nat) (h : left d m = 0) (i : Nat) (hi : i < m) : d i = true := by
  cases hd : d i with
  | true => rfl
  | false => have := left_upd hd m hi; omega

/-- The invariant's rule. -/
theorem okInv_aux (J : (Nat → Bool) → Act → World → Prop)
    (step : AllOps (fun i o => ∀ d a w, rdyB ops d i = true → J d a w → wOp P ops S (clAt cl i) o (J (upd d i)) a w) 0 ops.toList)
    (fin : ∀ d a w, (∀ i, rdyB ops d i = false) → J d a w → Z a w) : ∀ (n : Nat) (d : Nat → Bool) (a : Act) (w : World), left d ops.size ≤ n → J d a w → okAny P ops S cl Z n d a w := by
  intro n
  induction n with
  | zero =>
    intro d a w hn hJ
    have hr : ∀ i, rdyB ops d i = false := by
      intro i
      cases hq : rdyB ops d i with
      | false => rfl
      | true =>
        obtain ⟨o, ho, hf, _⟩ := rdy_iff.1 hq
        have := left_zero _ (Nat.le_zero.1 hn) i (Array.getElem?_eq_some_iff.1 ho).1
        rw [this] at hf; cases hf
    exact ⟨hr, fin d a w hr hJ⟩
  | succ n ih =>
    intro d a w hn hJ
    refine ⟨fun hr => fin d a w hr hJ, fun i o ho hr => ?_⟩
    have h := allOps_get (Q := fun i o => ∀ d a w, rdyB ops d i = true → J d a w → wOp P ops S (clAt cl i) o (J (upd d i)) a w) ops.toList 0 i o step (by simpa using ho)
    rw [Nat.zero_add] at h
    obtain ⟨_, _, hf, _⟩ := rdy_iff.1 hr
    have hlt := (Array.getElem?_eq_some_iff.1 ho).1
    have := left_upd hf ops.size hlt
    exact (h d a w hr hJ).mono fun a' w' hJ' => ih _ a' w' (by omega) hJ'
/-- All are done when none is ready: for the regions whose edges go forward. -/
def fwdB (ops : Array Oper) : Bool := (List.range ops.size).all fun i => (List.range ops.size).all fun j => !edgeB ops i j || Nat.blt j i
def onB (ops : Array Oper) : Bool := ops.all fun o => o.after.all fun e => Nat.blt e.on ops.size
theorem all_done {d : Nat → Bool} (hf : (fwdB ops && onB ops) = true) (h : ∀ i, rdyB ops d i = false) : ∀ i, i < ops.size → d i = true := by
  have hf' := Bool.and_eq_true_iff.1 hf
  intro i
  induction i using Nat.strongRecOn with
  | _ i ih =>
    intro hi
    cases hd : d i with
    | true => rfl
    | false =>
      have ho : ops[i]? = some ops[i] := by simp [hi]
      have : rdyB ops d i = true := by
        refine rdy_iff.2 ⟨_, ho, hd, fun e he hb => ?_⟩
        have hon : e.on < ops.size := by
          have h1 := hf'.2
          unfold onB at h1
          rw [Array.all_eq_true_iff_forall_mem] at h1
          have h2 := h1 ops[i] (by simp)
          rw [Array.all_eq_true_iff_forall_mem] at h2
          have h3 := h2 e he
          rw [Nat.blt_eq] at h3
          exact h3
        have hed : edgeB ops i e.on = true := by
          unfold edgeB
          rw [ho]
          exact List.any_eq_true.2 ⟨e, by simpa using he, Bool.and_eq_true_iff.2 ⟨hb, Nat.beq_refl _⟩⟩
        have h1 := List.all_eq_true.1 (List.all_eq_true.1 hf'.1 i (List.mem_range.2 hi)) e.on (List.mem_range.2 hon)
        rw [hed] at h1
        have h2 : e.on < i := by simpa [Nat.blt_eq] using h1
        exact ih _ h2 hon
      rw [h i] at this; cases this
theorem okInv (J : (Nat → Bool) → Act → World → Prop) (hf : (fwdB ops && onB ops) = true) {a : Act} {w : World} (h0 : J (fun _ => false) a w)
    (fin : ∀ d a w, (∀ i, i < ops.size → d i = true) → J d a w → Z a w)
    (step : AllOps (fun i o => ∀ d a w, rdyB ops d i = true → J d a w → wOp P ops S (clAt cl i) o (J (upd d i)) a w) 0 ops.toList) : okAny P ops S cl Z ops.size (fun _ => false) a w :=
  okInv_aux J step (fun d a w hr hJ => fin d a w (all_done hf hr) hJ) _ _ _ _ (by rw [left_none]; exact Nat.le_refl _) h0

theorem blt_lt {m n : Nat} (h : Nat.blt m n = true) : m < n := by rw [Nat.blt_eq] at h; exact h
theorem noF {p : Prop} (h : false = true) : p := by cases h
/-- What is outside D waits for all of D, or for something outside D. -/
def frontB (ops : Array Oper) (D : Nat → Bool) : Bool := (List.range ops.size).all fun i => D i || ((List.range ops.size).all fun j => !D j || waitsB ops ops.size i j) || (List.range ops.size).any fun j => !D j && waitsB ops ops.size i j
theorem okFront_aux (D : Nat → Bool) (J : (Nat → Bool) → Act → World → Prop) (hf : (fwdB ops && onB ops) = true) (hF : frontB ops D = true) (hS : ∀ k, D k = true → k < ops.size)
    (step : AllOps (fun i o => D i = true → ∀ d a w, rdyB ops d i = true → J d a w → wOp P ops S (clAt cl i) o (J (upd d i)) a w) 0 ops.toList)
    (fin : ∀ a w, J D a w → okAny P ops S cl Z (left D ops.size) D a w) : ∀ (n : Nat) (d : Nat → Bool) (a : Act) (w : World), left d ops.size = n → (∀ k, d k = true → D k = true) → Closed ops d → J d a w → okAny P ops S cl Z n d a w := by
  intro n
  induction n with
  | zero =>
    intro d a w hn hd _ hJ
    have e : d = D := by
      funext k
      cases hk : D k with
      | true => exact left_zero _ hn k (hS k hk)
      | false =>
        cases hq : d k with
        | false => rfl
        | true => rw [hd k hq] at hk; cases hk
    subst e
    rw [← hn]
    exact fin a w hJ
  | succ n ih =>
    intro d a w hn hd hc hJ
    by_cases hall : ∀ k, D k = true → d k = true
    · have e : d = D := by
        funext k
        cases hk : D k with
        | true => exact hall k hk
        | false =>
          cases hq : d k with
          | false => rfl
          | true => rw [hd k hq] at hk; cases hk
      subst e
      rw [← hn]
      exact fin a w hJ
    · refine ⟨fun hr => ?_, fun i o ho hr => ?_⟩
      · exact absurd (fun k hk => all_done hf hr k (hS k hk)) hall
      · have hlt := (Array.getElem?_eq_some_iff.1 ho).1
        obtain ⟨o', ho', hfi, he⟩ := rdy_iff.1 hr
        have hpre : ∀ j, waitsB ops ops.size i j = true → d j = true := fun j hj => waits_done hc _ _ hj fun o'' ho'' e hm hb => by
          obtain rfl := Option.some.inj (ho'.symm.trans ho'')
          exact he e hm hb
        have hDi : D i = true := by
          have h1 := List.all_eq_true.1 hF i (List.mem_range.2 hlt)
          rcases Bool.or_eq_true_iff.1 h1 with h1 | h1
          · rcases Bool.or_eq_true_iff.1 h1 with h1 | h1
            · exact h1
            · refine absurd (fun k hk => ?_) hall
              have h2 := List.all_eq_true.1 h1 k (List.mem_range.2 (hS k hk))
              rw [hk] at h2
              exact hpre k (by simpa using h2)
          · obtain ⟨j, _, hj⟩ := List.any_eq_true.1 h1
            obtain ⟨hj1, hj2⟩ := Bool.and_eq_true_iff.1 hj
            have := hd j (hpre j hj2)
            rw [this] at hj1; cases hj1
        have h := allOps_get (Q := fun i o => D i = true → ∀ d a w, rdyB ops d i = true → J d a w → wOp P ops S (clAt cl i) o (J (upd d i)) a w) ops.toList 0 i o step (by simpa using ho)
        rw [Nat.zero_add] at h
        have hl := left_upd hfi ops.size hlt
        refine (h hDi d a w hr hJ).mono fun a' w' hJ' => ih _ a' w' (by omega) (fun k hk => ?_) (fun j oj hoj hdj e hm hb => ?_) hJ'
        · by_cases hki : k = i
          · subst hki; exact hDi
          · rw [upd_ne hki] at hk; exact hd k hk
        · by_cases hji : j = i
          · subst hji
            obtain rfl := Option.some.inj (ho'.symm.trans hoj)
            exact upd_of (he e hm hb)
          · rw [upd_ne hji] at hdj
            exact upd_of (hc j oj hoj hdj e hm hb)
/-- The operations of D first, in whatever order; then the others. -/
theorem okFront (D : Nat → Bool) (J : (Nat → Bool) → Act → World → Prop) (r : Nat) (hf : (fwdB ops && onB ops && frontB ops D && Nat.beq (left D ops.size) r) = true) (hS : ∀ k, D k = true → k < ops.size) {a : Act} {w : World}
    (h0 : J (fun _ => false) a w)
    (fin : ∀ a w, J D a w → okAny P ops S cl Z r D a w)
    (step : AllOps (fun i o => D i = true → ∀ d a w, rdyB ops d i = true → J d a w → wOp P ops S (clAt cl i) o (J (upd d i)) a w) 0 ops.toList) : okAny P ops S cl Z ops.size (fun _ => false) a w := by
  obtain ⟨hg, hr⟩ := Bool.and_eq_true_iff.1 hf
  obtain ⟨hh, hF⟩ := Bool.and_eq_true_iff.1 hg
  have hr := Nat.eq_of_beq_eq_true hr
  subst hr
  exact okFront_aux D J hh hF hS step fin _ _ _ _ (left_none _) (fun k hk => by cases hk) (fun j o _ h => by cases h) h0

/-- A value as a step that acts. -/
theorem ev_act {o : Oper} {a : Act} {w : World} {N d : Nat} {L : Fm} {v : Value} {K : Act → World → Prop} (hk : Kn a N L) (hd : o.dst = some d) (hN : Nat.blt d N = true) (h : Ev P o a w v)
    (hK : ∀ a', Kn a' N ((d, v) :: L) → K a' w) : acts P o K a w := act_v hk hd hN h hK
/-- A frame's slots, named by what they hold. -/
theorem Kn.own {a : Act} {N : Nat} {L : Fm} (hk : Kn a N L) (t : Nat) : Kn a N ((t, a.tmps.getD t undef) :: L) :=
  ⟨hk.df, hk.sz, fun k v h => by
    rcases lk_cons h with ⟨rfl, rfl⟩ | ⟨_, h⟩
    · rfl
    · exact hk.ev k v h⟩
/-- The first of two that know a slot counts. -/
theorem Kn.lift {a : Act} {N : Nat} {L : Fm} (hk : Kn a N L) (t : Nat) {v : Value} (h : lk L t = some v) : Kn a N ((t, v) :: L) :=
  ⟨hk.df, hk.sz, fun k u hu => by
    rcases lk_cons hu with ⟨rfl, rfl⟩ | ⟨_, hu⟩
    · exact hk.ev _ _ h
    · exact hk.ev k u hu⟩
end
end Go.Proofs.YtidfbboalbchiaaDoor

namespace Go.Proofs.YtidfbboalbchiaaDoor
open Go Go.RowKit

/-- What Of hashes. -/
def ofIn (n : Int) (ps : List (List UInt8)) : List UInt8 := byteOf n :: (ps.map encB).flatten
/-- The row of the pieces: strings. -/
def Rs (w : World) (ad : Option Addr) (n c : Nat) (ps : List (List UInt8)) : Prop := Rd w ad n c 1 (ps.map Str)
theorem length_encB (s : List UInt8) : (encB s).length ≤ s.length + 9 := by
  have := length_encI_le (s.length : Int)
  rw [encB, List.length_append]; omega
theorem flat_take (ps : List (List UInt8)) (j : Nat) (x : List UInt8) (h : ps[j]? = some x) : ((ps.take (j + 1)).map encB).flatten = ((ps.take j).map encB).flatten ++ encB x := by
  obtain ⟨hj, rfl⟩ := List.getElem?_eq_some_iff.1 h
  rw [List.take_add_one, List.getElem?_eq_getElem hj]
  simp only [Option.toList_some, List.map_append, List.flatten_append, List.map_cons, List.map_nil, List.flatten_cons, List.flatten_nil, List.append_nil]
theorem IsS.one {m : List UInt8} {v : Value} (h : IsS m v) : ∃ cs : List Value, v = .agg cs.toArray ∧ cs.length = 73 ∧ ∀ u ∈ cs.toArray, u.oneCell' = true := by
  obtain ⟨blk, hb, rfl⟩ := h
  exact ⟨_, rfl, length_sc _ _ _ hb.1, sc_one _ _ _⟩
theorem Rs.get {w : World} {ad : Option Addr} {n c : Nat} {ps : List (List UInt8)} (h : Rs w ad n c ps) (j : Nat) (x : List UInt8) (hx : ps[j]? = some x) : ∃ b o, ad = some ⟨b, o, none⟩ ∧ w.cell? ⟨b, o + j, none⟩ = some (Str x) :=
  h.2.2 j (Str x) (by simp [hx])
theorem Rs.len {w : World} {ad : Option Addr} {n c : Nat} {ps : List (List UInt8)} (h : Rs w ad n c ps) : ps.length = n := by have := h.1; simpa using this

theorem IsS.len {m : List UInt8} {cs : Array Value} (h : IsS m (.agg cs)) : cs.size = 73 := by
  obtain ⟨blk, hb, e⟩ := h
  cases e
  have := length_sc (state m) blk m.length hb.1
  simpa using this
theorem flat_len (k : Nat) : ∀ (ps : List (List UInt8)), (∀ x ∈ ps, x.length ≤ k) → ((ps.map encB).flatten).length ≤ ps.length * (k + 9) := by
  intro ps
  induction ps with
  | nil => intro _; simp
  | cons x r ih =>
    intro h
    have h1 := ih fun y hy => h y (List.mem_cons_of_mem _ hy)
    have h2 := h x (List.mem_cons_self ..)
    have h3 := length_encB x
    simp only [List.map_cons, List.flatten_cons, List.length_append, List.length_cons]
    rw [Nat.succ_mul]; omega
theorem mlen {b : UInt8} (ps : List (List UInt8)) (h : ∀ x ∈ ps, x.length ≤ 140737488351232) (j : Nat) : (b :: ((ps.take j).map encB).flatten).length ≤ 1 + ps.length * 140737488351241 := by
  have h1 := flat_len 140737488351232 (ps.take j) fun x hx => h x (List.mem_of_mem_take hx)
  have h2 : (ps.take j).length * 140737488351241 ≤ ps.length * 140737488351241 := Nat.mul_le_mul_right _ (by simp; omega)
  simp only [List.length_cons]; omega
theorem range16 (m : List UInt8) (i : Nat) (hi : i < (((sha m).take 16).map B).length) : ((sha m).map B).toArray[0 + i]? = (((sha m).take 16).map B)[i]? := by
  have hi' : i < 16 := by simp at hi; omega
  simp [hi']

set_option maxRecDepth 4000 in
set_option maxHeartbeats 1000000 in
theorem c35 (n₀ : Int) (ps : List (List UInt8)) (ad : Option Addr) (c : Nat) (w0 : World) (hR : Rs w0 ad ps.length c ps) (hG : GH w0) (hn : ps.length ≤ 900) (hlen : ∀ x ∈ ps, x.length ≤ 140737488351232) :
    Calls Tryd.prog 35 #[I n₀, .slice ad ps.length c] w0 fun e w' => e = .returned (.agg (((sha (ofIn n₀ ps)).take 16).map B).toArray) ∧ Ext w0 w' := by
  refine start 32 Tryd.func35 rfl rfl rfl fun a hk => ?_
  refine wp_seq_k fun K1 hK1 => ?_
  refine wp_region_lit ?_
  refine la hk rfl (a_alloc hk rfl zr44 fun a w b4 hk G4 => ?_)
  refine lnil (hK1 _ _ ?_)
  refine wp_seq_k fun K2 hK2 => ?_
  refine wp_region_ok (fun _ => True) [] mixed ?_
  have hB := G4.ext.drew
  obtain ⟨z4, h4, hz4⟩ : ∃ z4 : Array Value, w.drew.heap[b4]? = some (.cells z4 44 (0, 0)) ∧ z4.size = 16 := ⟨_, G4.at_, rfl⟩
  have hg4 := G4.ge
  refine okFront (fun k => Nat.blt k 7) (fun d a w => ∃ v0 v1 v2 v3 v4 v5 v6 : Value, Kn a 32 [(9, v0), (10, v1), (11, v2), (12, v3), (13, v4), (14, v5), (5, v6), (4, .pointer (some ⟨b4, 0, none⟩)), (0, I n₀), (1, .slice ad ps.length c)] ∧ (Below w0.heap.size w0 w) ∧ (w.heap[b4]? = some (.cells z4 44 (0, 0))) ∧ (d 0 = true → IsS [] v0) ∧ (d 1 = true → v1 = I n₀) ∧ (d 2 = true → v2 = B (byteOf n₀)) ∧ (d 3 = true → ∃ ad c, v3 = .slice ad 1 c ∧ Rd w ad 1 c 1 ([byteOf n₀].map B)) ∧ (d 4 = true → v4 = Str [byteOf n₀]) ∧ (d 5 = true → IsS [byteOf n₀] v5) ∧ (d 6 = true → ∃ b, v6 = .pointer (some ⟨b, 0, none⟩) ∧ w0.heap.size ≤ b ∧ b ≠ b4 ∧ ∃ cs : Array Value, cs.size = 73 ∧ w.heap[b]? = some (.cells cs 34 (0, 0)))) 1 (by kernel_rfl) (fun k hk => Nat.lt_of_lt_of_le (blt_lt hk) (by decide)) ⟨_, _, _, _, _, _, _, (((((((hk.own 5).own 14).own 13).own 12).own 11).own 10).own 9).sub _ ⟨rfl, rfl, rfl, rfl, rfl, rfl, rfl, rfl, rfl, rfl, trivial⟩, hB, h4, fun h => noF h, fun h => noF h, fun h => noF h, fun h => noF h, fun h => noF h, fun h => noF h, fun h => noF h⟩ (fun a w hJ => ?_) ?_
  · obtain ⟨v0, v1, v2, v3, v4, v5, v6, hk, hB, h4, f0, f1, f2, f3, f4, f5, f6⟩ := hJ
    have p0 := f0 rfl
    have p1 := f1 rfl
    have p2 := f2 rfl
    have p3 := f3 rfl
    have p4 := f4 rfl
    have p5 := f5 rfl
    have p6 := f6 rfl
    obtain ⟨b5, rfl, hg5, hne, z5, hz5, h5⟩ := p6
    clear p0 p1 p2 p3 p4
    obtain ⟨cs, rfl, hcl, hc1⟩ := p5.one
    refine da 7 hk rfl (by kernel_rfl) rfl rfl (a_storeB hk rfl rfl hc1 (by rw [sz34]; simp [hcl]) h5 (by simp [hcl, hz5]) fun a w hk W7 => ?_)
    have hB := W7.below hB hg5
    have h4 := W7.keep (Ne.symm hne) h4
    have h5 : ∃ v, IsS [byteOf n₀] (.agg v) ∧ w.heap[b5]? = some (.cells v 34 (0, 0)) := ⟨_, p5, W7.at_⟩
    clear W7 p5
    refine okFin (by kernel_rfl) (hK2 _ _ ?_)
    refine wp_seq_k fun K3 hK3 => ?_
    refine wp_seq_k fun K4 hK4 => ?_
    refine wp_region_lit ?_
    refine ls hk rfl rfl rfl (e_move hk rfl _) fun a hk => ?_
    refine ls hk rfl rfl rfl (e_lenS hk rfl Tryd.underlying27 _) fun a hk => ?_
    refine ls hk rfl rfl rfl (e_move hk rfl _) fun a hk => ?_
    refine lnil (hK4 _ _ ?_)
    refine wp_block ?_
    refine loopN (fun n a w => ∃ j : Nat, n = ps.length - j ∧ j ≤ ps.length ∧ Kn a 32 [(4, .pointer (some ⟨b4, 0, none⟩)), (5, .pointer (some ⟨b5, 0, none⟩)), (15, .slice ad ps.length c), (16, I ps.length), (17, I j)] ∧ Below w0.heap.size w0 w ∧ w.heap[b4]? = some (.cells z4 44 (0, 0)) ∧ ∃ v, IsS (byteOf n₀ :: ((ps.take j).map encB).flatten) (.agg v) ∧ w.heap[b5]? = some (.cells v 34 (0, 0))) (ps.length) ?_ fun n a w hI => ?_
    · exact ⟨0, rfl, Nat.zero_le _, hk.sub _ ⟨rfl, rfl, rfl, rfl, rfl, trivial⟩, hB, h4, h5⟩
    clear hB h4 h5
    obtain ⟨j, rfl, hj, hk, hB, h4, v5, hIs, h5⟩ := hI
    refine wp_seq_k fun K5 hK5 => ?_
    refine wp_region_lit ?_
    refine ls hk rfl rfl rfl (e_lss hk rfl rfl rfl _) fun a hk => ?_
    refine lnil (hK5 _ _ ?_)
    refine wp_seq_k fun K6 hK6 => ?_
    refine cdB hk rfl (fun hb => ?_) (fun hb => ?_)
    · have hjl : j < ps.length := by have := of_decide_eq_true hb; omega
      obtain ⟨x, hx⟩ : ∃ x, ps[j]? = some x := ⟨_, List.getElem?_eq_getElem hjl⟩
      obtain ⟨bp, op, rfl, hcell⟩ := Rs.get (Rd.below hR hB (Nat.le_refl _)) j x hx
      have hxl := hlen x (List.mem_of_getElem? hx)
      refine wp_skip (hK6 _ _ ?_)
      refine wp_seq_k fun K7 hK7 => ?_
      refine wp_block ?_
      refine wp_seq_k fun K8 hK8 => ?_
      refine wp_region_lit ?_
      refine ls hk rfl rfl rfl (e_idxS1 j hk rfl rfl Tryd.underlying27 sz9 rfl hjl _) fun a hk => ?_
      refine ls hk rfl rfl rfl (r_load1 (v := Str x) hk rfl Tryd.underlying9 rfl hcell) fun a hk => ?_
      refine ls hk rfl rfl rfl (e_assign hk rfl _) fun a hk => ?_
      refine lnil (hK8 _ _ ?_)
      refine wp_region_ok (fun w => w.heap[b5]? = some (.cells v5 34 (0, 0))) [3, 0, 4, 1, 2, 2] mixed ?_
      have hB := hB.drew
      have h4 : w.drew.heap[b4]? = _ := h4
      have hS : w.drew.heap[b5]? = _ := h5
      have h73 : v5.size = 73 := hIs.len
      have hml := mlen (b := byteOf n₀) ps hlen j
      refine d3 0 hk rfl (by kernel_rfl) rfl rfl rfl rfl hS (fun w hS => r_loadB hk rfl hS Tryd.underlying34 rfl (by rw [sz34, h73])) fun a hk => ?_
      refine d0 1 hk rfl (by kernel_rfl) rfl rfl rfl rfl (fun _ => e_move hk rfl _) fun a hk => ?_
      refine da4 2 hk rfl (by kernel_rfl) rfl rfl hS (a_call hk rfl rfl (c_fn hk rfl ok73) (c73 x _ (by omega)) ?_)
      rintro e w ⟨ade, ce, rfl, hown, hE⟩
      refine ⟨_, rfl, fun a hk => ⟨ext_at hE hS, ?_⟩⟩
      have hS := ext_at hE hS
      have h4 := ext_at hE h4
      have hB := ext_trans hB hE
      obtain ⟨ade', ce', hv, _, hRe⟩ := Rd.of_own hown
      obtain ⟨rfl, rfl⟩ : ade = ade' ∧ ce = ce' := by cases hv; exact ⟨rfl, rfl⟩
      refine d1 3 hk rfl (by kernel_rfl) rfl rfl rfl rfl (e_str hk rfl hRe Tryd.underlying22 Tryd.underlying5 Tryd.underlying9) fun a hk => ?_
      refine da 4 hk rfl (by kernel_rfl) rfl rfl (a_call hk rfl rfl (c_fn hk rfl ok27) (c27 _ (encB x) _ _ hIs (hG.ext hB) (by have := length_encB x; omega)) ?_)
      rintro e w ⟨v, rfl, hIs', hE⟩
      refine ⟨_, rfl, fun a hk => ?_⟩
      have hS := ext_at hE hS
      have h4 := ext_at hE h4
      have hB := ext_trans hB hE
      obtain ⟨cs, rfl, hcl, hc1⟩ := hIs'.one
      refine da 5 hk rfl (by kernel_rfl) rfl rfl (a_storeB hk rfl rfl hc1 (by rw [sz34]; simp [hcl]) hS (by simp [hcl, h73]) fun a w hk W5 => ?_)
      have hB := W5.below hB hg5
      have h4 := W5.keep (Ne.symm hne) h4
      have h5 : ∃ v, IsS (byteOf n₀ :: ((ps.take (j + 1)).map encB).flatten) (.agg v) ∧ w.heap[b5]? = some (.cells v 34 (0, 0)) := ⟨_, by rw [flat_take _ _ _ hx]; exact hIs', W5.at_⟩
      clear W5
      refine okFin (by kernel_rfl) (hK7 _ _ ?_)
      refine wp_region_lit ?_
      refine ls hk rfl rfl rfl (e_add hk rfl rfl (i64 (by omega) (by omega)) _) fun a hk => ?_
      refine ls hk rfl rfl rfl (e_move hk rfl _) fun a hk => ?_
      refine lnil (show ∃ m : Nat, m < _ ∧ _ from ⟨ps.length - (j + 1), by omega, j + 1, rfl, by omega, hk.sub _ ⟨rfl, rfl, rfl, rfl, rfl, trivial⟩, hB, h4, h5⟩)
    · have hjl : j = ps.length := by have := of_decide_eq_false hb; omega
      subst hjl
      rw [List.take_length] at hIs
      refine wp_exit (hK3 _ _ ?_)
      refine wp_seq_k fun K9 hK9 => ?_
      refine wp_region_lit ?_
      refine ls hk rfl rfl rfl (r_loadB hk rfl h5 Tryd.underlying34 rfl (by rw [sz34, hIs.len])) fun a hk => ?_
      refine la hk rfl (a_call hk rfl rfl (c_fn hk rfl ok29) (c29 _ _ _ hIs (hG.ext hB) (by have := mlen (b := byteOf n₀) ps hlen ps.length; rw [List.take_length] at this; omega)) ?_)
      rintro e w ⟨rfl, hE⟩
      refine ⟨_, rfl, fun a hk => ?_⟩
      have h4 := ext_at hE h4
      have hB := ext_trans hB hE
      refine la hk rfl (a_alloc hk rfl zr24 fun a w b8 hk G8 => ?_)
      refine la hk rfl (a_storeB hk rfl rfl (bytes_oneA _) (by rw [sz24]; simp [length_sha]) G8.at_ (by simp [length_sha, Value.cells]) fun a w hk W7 => ?_)
      have h4 := W7.keep (G8.ne h4) (ext_at G8.ext h4)
      have hB := W7.below (ext_trans hB G8.ext) (Nat.le_trans hB.size G8.ge)
      have h8 := W7.at_
      refine lnil (hK9 _ _ ?_)
      refine wp_seq_k fun K10 hK10 => ?_
      refine wp_region_lit ?_
      refine ls hk rfl rfl rfl (e_slAto (i := 16) hk rfl rfl Tryd.underlying24 sz5 (by decide) (by decide) _) fun a hk => ?_
      refine ls hk rfl rfl rfl (e_s2a hk rfl Tryd.underlying44 (by decide) _) fun a hk => ?_
      refine ls hk rfl rfl rfl (r_loadR (xs := ((sha (ofIn n₀ ps)).take 16).map B) hk rfl (range_block h8 (fun i hi => range16 _ i hi)) Tryd.underlying44 rfl (by rw [sz44]; simp [length_sha])) fun a hk => ?_
      refine la hk rfl (a_storeB hk rfl rfl (bytes_oneA _) (by rw [sz44]; simp [length_sha]) h4 (by simp [length_sha, hz4]) fun a w hk W8 => ?_)
      refine lnil (hK10 _ _ ?_)
      refine wp_ret ?_
      exact retA hk rfl rfl W8.at_ Tryd.underlying44 rfl (by rw [sz44]; simp [length_sha]) ⟨rfl, W8.below hB hg4⟩
  refine ⟨?_, ?_, ?_, ?_, ?_, ?_, ?_, ?_, trivial⟩
  · intro _ d a w hr hJ
    obtain ⟨v0, v1, v2, v3, v4, v5, v6, hk, hB, h4, f0, f1, f2, f3, f4, f5, f6⟩ := hJ
    refine wa hk rfl rfl ?_
    refine a_call hk rfl rfl (c_fn (vs := []) hk rfl ok26) (c26 _) ?_
    rintro e w' ⟨v, rfl, new, hE⟩
    refine ⟨_, rfl, fun a hk => ?_⟩
    exact ⟨_, _, _, _, _, _, _, hk.sub _ ⟨rfl, rfl, rfl, rfl, rfl, rfl, rfl, rfl, rfl, rfl, trivial⟩, ext_trans hB hE, ext_at hE h4, fun _ => new, fun h => f1 h, fun h => f2 h, fun h => by have f := f3 h; exact by obtain ⟨x, y, e, h⟩ := f; exact ⟨x, y, e, h.ext hE⟩, fun h => f4 h, fun h => f5 h, fun h => by have f := f6 h; exact by obtain ⟨b, e, g, ne, cs, hz, h⟩ := f; exact ⟨b, e, g, ne, cs, hz, ext_at hE h⟩⟩
  · intro _ d a w hr hJ
    obtain ⟨v0, v1, v2, v3, v4, v5, v6, hk, hB, h4, f0, f1, f2, f3, f4, f5, f6⟩ := hJ
    refine wa hk rfl rfl ?_
    refine ev_act hk rfl rfl (e_move hk rfl _) fun a hk => ?_
    have new : I n₀ = I n₀ := rfl
    exact ⟨_, _, _, _, _, _, _, hk.sub _ ⟨rfl, rfl, rfl, rfl, rfl, rfl, rfl, rfl, rfl, rfl, trivial⟩, hB, h4, fun h => f0 h, fun _ => new, fun h => f2 h, fun h => f3 h, fun h => f4 h, fun h => f5 h, fun h => f6 h⟩
  · intro _ d a w hr hJ
    obtain ⟨v0, v1, v2, v3, v4, v5, v6, hk, hB, h4, f0, f1, f2, f3, f4, f5, f6⟩ := hJ
    obtain rfl := f1 (rdy_pre hr 1 (by kernel_rfl))
    refine wa hk rfl rfl ?_
    refine ev_act hk rfl rfl (e_conv hk rfl Tryd.underlying3 Tryd.underlying5 (i_b _) _) fun a hk => ?_
    have new : B (byteOf n₀) = B (byteOf n₀) := rfl
    exact ⟨_, _, _, _, _, _, _, hk.sub _ ⟨rfl, rfl, rfl, rfl, rfl, rfl, rfl, rfl, rfl, rfl, trivial⟩, hB, h4, fun h => f0 h, fun h => f1 h, fun _ => new, fun h => f3 h, fun h => f4 h, fun h => f5 h, fun h => f6 h⟩
  · intro _ d a w hr hJ
    obtain ⟨v0, v1, v2, v3, v4, v5, v6, hk, hB, h4, f0, f1, f2, f3, f4, f5, f6⟩ := hJ
    obtain rfl := f2 (rdy_pre hr 2 (by kernel_rfl))
    refine wa hk rfl rfl ?_
    refine a_lit (cells := #[B (byteOf n₀)]) (zv := .int .u8 0) (sz := 1) (by_ := 1) hk rfl rfl Tryd.underlying22 el5 (by decide) (by decide) (lit1 _ _ rfl) rfl fun a w' bl hk GL => ?_
    have hE := GL.ext
    have new : ∃ ad c, (Value.slice (some ⟨bl, 0, none⟩) 1 1) = .slice ad 1 c ∧ Rd w' ad 1 c 1 ([byteOf n₀].map B) := ⟨_, _, rfl, lit_byte _ GL⟩
    exact ⟨_, _, _, _, _, _, _, hk.sub _ ⟨rfl, rfl, rfl, rfl, rfl, rfl, rfl, rfl, rfl, rfl, trivial⟩, ext_trans hB hE, ext_at hE h4, fun h => f0 h, fun h => f1 h, fun h => f2 h, fun _ => new, fun h => f4 h, fun h => f5 h, fun h => by have f := f6 h; exact by obtain ⟨b, e, g, ne, cs, hz, h⟩ := f; exact ⟨b, e, g, ne, cs, hz, ext_at hE h⟩⟩
  · intro _ d a w hr hJ
    obtain ⟨v0, v1, v2, v3, v4, v5, v6, hk, hB, h4, f0, f1, f2, f3, f4, f5, f6⟩ := hJ
    obtain ⟨ad3, c3, rfl, hR3⟩ := f3 (rdy_pre hr 3 (by kernel_rfl))
    refine wa hk rfl rfl ?_
    refine ev_act hk rfl rfl (e_str hk rfl hR3 Tryd.underlying22 Tryd.underlying5 Tryd.underlying9) fun a hk => ?_
    have new : Str [byteOf n₀] = Str [byteOf n₀] := rfl
    have f3 : d 3 = true → ∃ ad c, (Value.slice ad3 1 c3) = .slice ad 1 c ∧ Rd w ad 1 c 1 ([byteOf n₀].map B) := fun _ => ⟨_, _, rfl, hR3⟩
    exact ⟨_, _, _, _, _, _, _, hk.sub _ ⟨rfl, rfl, rfl, rfl, rfl, rfl, rfl, rfl, rfl, rfl, trivial⟩, hB, h4, fun h => f0 h, fun h => f1 h, fun h => f2 h, fun h => f3 h, fun _ => new, fun h => f5 h, fun h => f6 h⟩
  · intro _ d a w hr hJ
    obtain ⟨v0, v1, v2, v3, v4, v5, v6, hk, hB, h4, f0, f1, f2, f3, f4, f5, f6⟩ := hJ
    obtain hIs := f0 (rdy_pre hr 0 (by kernel_rfl))
    obtain rfl := f4 (rdy_pre hr 4 (by kernel_rfl))
    refine wa hk rfl rfl ?_
    refine a_call hk rfl rfl (c_fn hk rfl ok27) (c27 [] [byteOf n₀] _ _ hIs (hG.ext hB) (by simp)) ?_
    rintro e w' ⟨v, rfl, hIs', hE⟩
    refine ⟨_, rfl, fun a hk => ?_⟩
    have new : IsS [byteOf n₀] v := hIs'
    exact ⟨_, _, _, _, _, _, _, hk.sub _ ⟨rfl, rfl, rfl, rfl, rfl, rfl, rfl, rfl, rfl, rfl, trivial⟩, ext_trans hB hE, ext_at hE h4, fun h => f0 h, fun h => f1 h, fun h => f2 h, fun h => by have f := f3 h; exact by obtain ⟨x, y, e, h⟩ := f; exact ⟨x, y, e, h.ext hE⟩, fun h => f4 h, fun _ => new, fun h => by have f := f6 h; exact by obtain ⟨b, e, g, ne, cs, hz, h⟩ := f; exact ⟨b, e, g, ne, cs, hz, ext_at hE h⟩⟩
  · intro _ d a w hr hJ
    obtain ⟨v0, v1, v2, v3, v4, v5, v6, hk, hB, h4, f0, f1, f2, f3, f4, f5, f6⟩ := hJ
    refine wa hk rfl rfl ?_
    refine a_alloc hk rfl zr34 fun a w' b5 hk G5 => ?_
    have hE := G5.ext
    have new : ∃ b, (Value.pointer (some ⟨b5, 0, none⟩)) = .pointer (some ⟨b, 0, none⟩) ∧ w0.heap.size ≤ b ∧ b ≠ b4 ∧ ∃ cs : Array Value, cs.size = 73 ∧ w'.heap[b]? = some (.cells cs 34 (0, 0)) := ⟨_, rfl, Nat.le_trans hB.size G5.ge, Ne.symm (G5.ne h4), _, rfl, G5.at_⟩
    exact ⟨_, _, _, _, _, _, _, hk.sub _ ⟨rfl, rfl, rfl, rfl, rfl, rfl, rfl, rfl, rfl, rfl, trivial⟩, ext_trans hB hE, ext_at hE h4, fun h => f0 h, fun h => f1 h, fun h => f2 h, fun h => by have f := f3 h; exact by obtain ⟨x, y, e, h⟩ := f; exact ⟨x, y, e, h.ext hE⟩, fun h => f4 h, fun h => f5 h, fun _ => new⟩
  · intro h; cases h

end Go.Proofs.YtidfbboalbchiaaDoor

namespace Go.Proofs.YtidfbboalbchiaaDoor
open Go Go.RowKit

theorem own_nil {w : World} {base : Nat} {e : TypeId} {sz : Nat} : w.ownsRow base e sz (.slice none 0 0) 0 [] := ⟨by simp, .inl ⟨rfl, rfl⟩⟩
/-- Bytes, the first i of them turned by x. -/
def xo (p : List UInt8) (x : UInt8) (i : Nat) : List UInt8 := (p.take i).map (· ^^^ x) ++ p.drop i
theorem xo_get (p : List UInt8) (x : UInt8) (i : Nat) (h : i < p.length) : ((xo p x i).map B).toArray[0 + i]? = some (B p[i]) := by
  simp [xo, List.getElem?_append_right, List.length_take, Nat.min_eq_left (Nat.le_of_lt h), h]
theorem xo_set (p : List UInt8) (x : UInt8) (i : Nat) (h : i < p.length) : ((xo p x i).map B).toArray.setIfInBounds (0 + i) (B (p[i] ^^^ x)) = ((xo p x (i + 1)).map B).toArray := by
  have e : xo p x i = (p.take i).map (· ^^^ x) ++ [p[i]] ++ p.drop (i + 1) := by
    rw [xo, List.drop_eq_getElem_cons h]; simp
  rw [e, Nat.zero_add, bytes_set _ _ _ _ _ (by simp; omega)]
  rw [xo, List.take_add_one, List.getElem?_eq_getElem h]
  simp only [Option.toList_some, List.map_append, List.map_cons, List.map_nil]
theorem length_xo (p : List UInt8) (x : UInt8) (i : Nat) : (xo p x i).length = p.length := by simp [xo]; omega
/-- A key, filled up and turned. -/
def fill64 (key : List UInt8) : List UInt8 := key ++ List.replicate (64 - key.length) 0
def pad64 (key : List UInt8) (x : UInt8) : List UInt8 := (fill64 key).map (· ^^^ x)
theorem length_fill64 (key : List UInt8) (h : key.length ≤ 64) : (fill64 key).length = 64 := by simp [fill64]; omega
theorem copy_fill (key : List UInt8) (h : key.length ≤ 64) (cs : Array Value) (hc : cs = (List.replicate 64 (B 0)).toArray) : (cs.toList.take 0 ++ (key.take (min key.length 64)).map B ++ cs.toList.drop (0 + min key.length 64)).toArray = ((xo (fill64 key) 0 0).map B).toArray := by
  subst hc
  rw [Nat.min_eq_left h]
  simp only [xo, fill64, List.take_zero, List.map_nil, List.nil_append, List.drop_zero, List.map_append, List.map_replicate, Nat.zero_add, List.take_length, List.drop_replicate]

theorem xo_all (p : List UInt8) (x : UInt8) (n : Nat) (h : p.length = n) : xo p x n = p.map (· ^^^ x) := by
  subst h
  simp [xo]

set_option maxRecDepth 4000 in
set_option maxHeartbeats 1000000 in
theorem c71 (x : UInt8) (key : List UInt8) (bk : Nat) (w0 : World) (hkey : w0.cell? ⟨bk, 0, none⟩ = some (Str key)) (hkl : key.length ≤ 64) :
    Calls Tryd.prog 71 #[B x, .pointer (some ⟨bk, 0, none⟩)] w0 fun e w' => e = .returned (Str (pad64 key x)) ∧ Ext w0 w' := by
  refine start 21 Tryd.func71 rfl rfl rfl fun a hk => ?_
  refine wp_seq_k fun K1 hK1 => ?_
  refine wp_region_lit ?_
  refine ls hk rfl rfl rfl (e_assign hk rfl _) fun a hk => ?_
  refine lnil (hK1 _ _ ?_)
  refine wp_seq_k fun K2 hK2 => ?_
  refine wp_region_lit ?_
  refine la hk rfl (a_alloc hk rfl zr31 fun a w b4 hk G4 => ?_)
  refine lnil (hK2 _ _ ?_)
  refine wp_seq_k fun K3 hK3 => ?_
  refine wp_region_ok (fun _ => True) [0, 1, 2] mixed ?_
  have hB := G4.ext.drew
  have h4 : w.drew.heap[b4]? = _ := G4.at_
  have hkc : w.drew.cell? ⟨bk, 0, none⟩ = some (Str key) := ext_cell hB hkey
  have hg4 := G4.ge
  refine d0 0 hk rfl (by kernel_rfl) rfl rfl rfl rfl (fun _ => e_slA hk rfl Tryd.underlying31 sz5 _) fun a hk => ?_
  refine d1 1 hk rfl (by kernel_rfl) rfl rfl rfl rfl (r_load1 (v := Str key) hk rfl Tryd.underlying9 rfl hkc) fun a hk => ?_
  refine da 2 hk rfl (by kernel_rfl) rfl rfl (a_copyStr (cs := (List.replicate 64 (B 0)).toArray) hk rfl rfl rfl Tryd.underlying22 sz5 h4 (by simp) fun a w hk W2 => ?_)
  have hB := W2.below hB hg4
  have h4 := W2.at_
  rw [copy_fill key hkl _ rfl] at h4
  rw [show xo (fill64 key) 0 0 = xo (fill64 key) x 0 by simp [xo]] at h4
  clear W2
  refine okFin (by kernel_rfl) (hK3 _ _ ?_)
  refine wp_seq_k fun K4 hK4 => ?_
  refine wp_seq_k fun K5 hK5 => ?_
  refine wp_region_lit ?_
  refine ls hk rfl rfl rfl (e_move hk rfl _) fun a hk => ?_
  refine lnil (hK5 _ _ ?_)
  refine wp_block ?_
  refine loopN (fun n a w => ∃ i : Nat, n = 64 - i ∧ i ≤ 64 ∧ Kn a 21 [(0, B x), (4, .pointer (some ⟨b4, 0, none⟩)), (9, I i)] ∧ Below w0.heap.size w0 w ∧ w.heap[b4]? = some (.cells ((xo (fill64 key) x i).map B).toArray 31 (0, 0))) (64) ?_ fun n a w hI => ?_
  · exact ⟨0, rfl, by omega, hk.sub _ ⟨rfl, rfl, rfl, trivial⟩, hB, h4⟩
  clear hB h4 hkc
  obtain ⟨i, rfl, hi, hk, hB, h4⟩ := hI
  refine wp_seq_k fun K6 hK6 => ?_
  refine wp_region_lit ?_
  refine ls hk rfl rfl rfl (e_lss hk rfl rfl rfl _) fun a hk => ?_
  refine lnil (hK6 _ _ ?_)
  refine wp_seq_k fun K7 hK7 => ?_
  refine cdB hk rfl (fun hb => ?_) (fun hb => ?_)
  · have hil : i < 64 := by have := of_decide_eq_true hb; omega
    have hif : i < (fill64 key).length := by rw [length_fill64 key hkl]; exact hil
    refine wp_skip (hK7 _ _ ?_)
    refine wp_seq_k fun K8 hK8 => ?_
    refine wp_block ?_
    refine wp_seq_k fun K9 hK9 => ?_
    refine wp_region_lit ?_
    refine ls hk rfl rfl rfl (e_move hk rfl _) fun a hk => ?_
    refine ls hk rfl rfl rfl (e_assign hk rfl _) fun a hk => ?_
    refine lnil (hK9 _ _ ?_)
    refine wp_region_lit ?_
    refine ls hk rfl rfl rfl (e_move hk rfl _) fun a hk => ?_
    refine ls hk rfl rfl rfl (e_idxA1 i hk rfl rfl Tryd.underlying31 sz5 rfl hil _) fun a hk => ?_
    refine ls hk rfl rfl rfl (r_load (v := B (fill64 key)[i]) hk rfl Tryd.underlying5 rfl h4 (xo_get _ _ _ hif)) fun a hk => ?_
    refine ls hk rfl rfl rfl (e_move hk rfl _) fun a hk => ?_
    refine ls hk rfl rfl rfl (e_xor hk rfl rfl (b_xor _ _) _) fun a hk => ?_
    refine ls hk rfl rfl rfl (e_idxA1 i hk rfl rfl Tryd.underlying31 sz5 rfl hil _) fun a hk => ?_
    refine la hk rfl (a_store hk rfl rfl rfl sz5 h4 (by simp [length_xo]; omega) fun a w hk W6 => ?_)
    have hB := W6.below hB hg4
    have h4 := W6.at_
    rw [xo_set _ _ _ hif] at h4
    clear W6
    refine lnil (hK8 _ _ ?_)
    refine wp_region_lit ?_
    refine ls hk rfl rfl rfl (e_add hk rfl rfl (i64 (by omega) (by omega)) _) fun a hk => ?_
    refine ls hk rfl rfl rfl (e_move hk rfl _) fun a hk => ?_
    refine lnil (show ∃ m : Nat, m < _ ∧ _ from ⟨64 - (i + 1), by omega, i + 1, rfl, by omega, hk.sub _ ⟨rfl, rfl, rfl, trivial⟩, hB, h4⟩)
  · have hil : i = 64 := by have := of_decide_eq_false hb; omega
    subst hil
    refine wp_exit (hK4 _ _ ?_)
    refine wp_seq_k fun K10 hK10 => ?_
    refine wp_region_lit ?_
    refine ls hk rfl rfl rfl (e_slA hk rfl Tryd.underlying31 sz5 _) fun a hk => ?_
    refine ls hk rfl rfl rfl (e_str (bs := pad64 key x) hk rfl (Rd.of_block h4 (by simp [pad64, length_fill64 key hkl]) (Nat.le_refl _) (fun i _ => by rw [xo_all _ _ _ (length_fill64 key hkl)]; simp [pad64])) Tryd.underlying22 Tryd.underlying5 Tryd.underlying9) fun a hk => ?_
    refine ls hk rfl rfl rfl (e_assign hk rfl _) fun a hk => ?_
    refine lnil (hK10 _ _ ?_)
    refine wp_ret ?_
    exact ret1 hk rfl rfl ⟨rfl, hB⟩

theorem k1_le (key : List UInt8) : (if key.length > 64 then sha key else key).length ≤ 64 := by
  split
  · rw [length_sha]; decide
  · omega
theorem length_pad64 (key : List UInt8) (x : UInt8) (h : key.length ≤ 64) : (pad64 key x).length = 64 := by rw [pad64, List.length_map, length_fill64 key h]
theorem sha_row {w : World} {b : Nat} {t : TypeId} {fr : Nat × Nat} {m : List UInt8} (h : w.heap[b]? = some (.cells ((sha m).map B).toArray t fr)) : Rd w (some ⟨b, 0, none⟩) 32 32 1 ((sha m).map B) :=
  Rd.of_block h (by simp [length_sha]) (Nat.le_refl _) fun i _ => by simp
theorem kcell {w : World} {b : Nat} {t : TypeId} {v : Value} (h : w.heap[b]? = some (.cells #[v] t (0, 0))) : w.cell? ⟨b, 0, none⟩ = some v := by
  rw [cell_of_row w b 0 _ t (0, 0) h]; rfl

set_option maxRecDepth 4000 in
set_option maxHeartbeats 1000000 in
theorem c30 (key text : List UInt8) (w0 : World) (hG : GH w0) (hkl : key.length ≤ 1000000000) (htl : text.length ≤ 1000000000) :
    Calls Tryd.prog 30 #[Str key, Str text] w0 fun e w' => e = .returned (Str (mac key text)) ∧ Ext w0 w' := by
  refine start 35 Tryd.func30 rfl rfl rfl fun a hk => ?_
  refine wp_seq_k fun K1 hK1 => ?_
  refine wp_region_lit ?_
  refine la hk rfl (a_box hk rfl rfl fun a w b2 hk G2 => ?_)
  refine ls hk rfl rfl rfl (e_assign hk rfl _) fun a hk => ?_
  have hB : Below w0.heap.size w0 w := G2.ext
  have h2 : w.heap[b2]? = some (.cells #[Str key] 9 (0, 0)) := G2.at_
  have hg2 := G2.ge
  clear G2
  refine lnil (hK1 _ _ ?_)
  refine wp_seq_k fun K2 hK2 => ?_
  have hJ2 : ∀ (a : Act) (w : World), Kn a 35 [(1, Str text), (2, .pointer (some ⟨b2, 0, none⟩))] ∧ Below w0.heap.size w0 w ∧ w.heap[b2]? = some (.cells #[Str (if key.length > 64 then sha key else key)] 9 (0, 0)) → K2 a w := by
    intro a w hJ
    refine hK2 _ _ ?_
    refine wp_seq_k fun K3 hK3 => ?_
    generalize hke : (if key.length > 64 then sha key else key) = k₁ at hJ
    have hk1 : k₁.length ≤ 64 := by rw [← hke]; exact k1_le key
    obtain ⟨hk, hB, h2⟩ := hJ
    refine wp_region_lit ?_
    refine ls hk rfl rfl rfl (e_func (us := []) (vs := [.pointer (some ⟨b2, 0, none⟩)]) hk rfl rfl _) fun a hk => ?_
    refine ls hk rfl rfl rfl (e_assign hk rfl _) fun a hk => ?_
    refine lnil (hK3 _ _ ?_)
    refine wp_seq_k fun K4 hK4 => ?_
    refine wp_region_lit ?_
    refine la hk rfl (a_call hk rfl rfl (c_fn (vs := []) hk rfl ok26) (c26 _) ?_)
    rintro e w ⟨v, rfl, hIs, hE⟩
    refine ⟨_, rfl, fun a hk => ?_⟩
    have h2 := ext_at hE h2
    have hB := ext_trans hB hE
    refine ls hk rfl rfl rfl (e_move hk rfl _) fun a hk => ?_
    refine la hk rfl (a_call hk rfl rfl (c_val (first := []) (captured := [.pointer (some ⟨b2, 0, none⟩)]) hk rfl rfl ok71) (c71 54 k₁ b2 _ (kcell h2) hk1) ?_)
    rintro e w ⟨rfl, hE⟩
    refine ⟨_, rfl, fun a hk => ?_⟩
    have h2 := ext_at hE h2
    have hB := ext_trans hB hE
    refine la hk rfl (a_call hk rfl rfl (c_fn hk rfl ok27) (c27 [] (pad64 k₁ 54) _ _ hIs (hG.ext hB) (by simp [length_pad64 _ _ hk1])) ?_)
    rintro e w ⟨v, rfl, hIs, hE⟩
    refine ⟨_, rfl, fun a hk => ?_⟩
    have h2 := ext_at hE h2
    have hB := ext_trans hB hE
    refine ls hk rfl rfl rfl (e_move hk rfl _) fun a hk => ?_
    refine la hk rfl (a_call hk rfl rfl (c_fn hk rfl ok27) (c27 _ text _ _ hIs (hG.ext hB) (by simp [length_pad64 _ _ hk1]; omega)) ?_)
    rintro e w ⟨v, rfl, hIs, hE⟩
    refine ⟨_, rfl, fun a hk => ?_⟩
    have h2 := ext_at hE h2
    have hB := ext_trans hB hE
    refine la hk rfl (a_call hk rfl rfl (c_fn hk rfl ok29) (c29 _ _ _ hIs (hG.ext hB) (by simp [length_pad64 _ _ hk1]; omega)) ?_)
    rintro e w ⟨rfl, hE⟩
    refine ⟨_, rfl, fun a hk => ?_⟩
    have h2 := ext_at hE h2
    have hB := ext_trans hB hE
    refine la hk rfl (a_alloc hk rfl zr24 fun a w b7 hk G7 => ?_)
    refine la hk rfl (a_storeB hk rfl rfl (bytes_oneA _) (by rw [sz24]; simp [length_sha]) G7.at_ (by simp [length_sha, Value.cells]) fun a w hk W5 => ?_)
    have h2 := W5.keep (G7.ne h2) (ext_at G7.ext h2)
    have hB := W5.below (ext_trans hB G7.ext) (Nat.le_trans hB.size G7.ge)
    have h7 := W5.at_
    rw [List.nil_append] at h7
    refine lnil (hK4 _ _ ?_)
    refine wp_seq_k fun K5 hK5 => ?_
    refine wp_region_ok (fun _ => True) [] mixed ?_
    have hB := hB.drew
    have h2 : w.drew.heap[b2]? = _ := h2
    have h7 : w.drew.heap[b7]? = _ := h7
    refine okFront (fun k => Nat.blt k 9) (fun d a w => ∃ v0 v1 v2 v3 v4 v5 v6 v7 v8 : Value, Kn a 35 [(25, v0), (26, v1), (27, v2), (28, v3), (29, v4), (30, v5), (31, v6), (32, v7), (8, v8), (6, .func (.func 71) #[] #[.pointer (some ⟨b2, 0, none⟩)]), (2, .pointer (some ⟨b2, 0, none⟩)), (7, .pointer (some ⟨b7, 0, none⟩))] ∧ (Below w0.heap.size w0 w) ∧ (w.heap[b2]? = some (.cells #[Str k₁] 9 (0, 0))) ∧ (w.heap[b7]? = some (.cells ((sha (pad64 k₁ 54 ++ text)).map B).toArray 24 (0, 0))) ∧ (d 0 = true → IsS [] v0) ∧ (d 1 = true → v1 = .func (.func 71) #[] #[.pointer (some ⟨b2, 0, none⟩)]) ∧ (d 2 = true → v2 = Str (pad64 k₁ 92)) ∧ (d 3 = true → IsS (pad64 k₁ 92) v3) ∧ (d 4 = true → v4 = Value.slice (some ⟨b7, 0, none⟩) 32 32) ∧ (d 5 = true → v5 = Str (sha (pad64 k₁ 54 ++ text))) ∧ (d 6 = true → IsS (pad64 k₁ 92 ++ sha (pad64 k₁ 54 ++ text)) v6) ∧ (d 7 = true → v7 = .agg ((sha (pad64 k₁ 92 ++ sha (pad64 k₁ 54 ++ text))).map B).toArray) ∧ (d 8 = true → ∃ b, v8 = .pointer (some ⟨b, 0, none⟩) ∧ w0.heap.size ≤ b ∧ ∃ cs : Array Value, cs.size = 32 ∧ w.heap[b]? = some (.cells cs 24 (0, 0)))) 1 (by kernel_rfl) (fun k hk => Nat.lt_of_lt_of_le (blt_lt hk) (by decide)) ⟨_, _, _, _, _, _, _, _, _, (((((((((hk.own 8).own 32).own 31).own 30).own 29).own 28).own 27).own 26).own 25).sub _ ⟨rfl, rfl, rfl, rfl, rfl, rfl, rfl, rfl, rfl, rfl, rfl, rfl, trivial⟩, hB, h2, h7, fun h => noF h, fun h => noF h, fun h => noF h, fun h => noF h, fun h => noF h, fun h => noF h, fun h => noF h, fun h => noF h, fun h => noF h⟩ (fun a w hJ => ?_) ?_
    · obtain ⟨v0, v1, v2, v3, v4, v5, v6, v7, v8, hk, hB, h2, h7, f0, f1, f2, f3, f4, f5, f6, f7, f8⟩ := hJ
      have p0 := f0 rfl
      have p1 := f1 rfl
      have p2 := f2 rfl
      have p3 := f3 rfl
      have p4 := f4 rfl
      have p5 := f5 rfl
      have p6 := f6 rfl
      have p7 := f7 rfl
      have p8 := f8 rfl
      subst p7
      obtain ⟨b8, rfl, hg8, z8, hz8, h8⟩ := p8
      clear p0 p1 p2 p3 p4 p5 p6
      refine da 9 hk rfl (by kernel_rfl) rfl rfl (a_storeB hk rfl rfl (bytes_oneA _) (by rw [sz24]; simp [length_sha]) h8 (by simp [length_sha, hz8]) fun a w hk W9 => ?_)
      have hB := W9.below hB hg8
      have h8 := W9.at_
      refine okFin (by kernel_rfl) (hK5 _ _ ?_)
      refine wp_seq_k fun K6 hK6 => ?_
      refine wp_region_lit ?_
      refine ls hk rfl rfl rfl (e_slA hk rfl Tryd.underlying24 sz5 _) fun a hk => ?_
      refine ls hk rfl rfl rfl (e_str (bs := sha (pad64 k₁ 92 ++ sha (pad64 k₁ 54 ++ text))) hk rfl (sha_row h8) Tryd.underlying22 Tryd.underlying5 Tryd.underlying9) fun a hk => ?_
      refine ls hk rfl rfl rfl (e_assign hk rfl _) fun a hk => ?_
      refine lnil (hK6 _ _ ?_)
      refine wp_ret ?_
      exact ret1 hk rfl rfl ⟨by rw [← hke]; rfl, hB⟩
    refine ⟨?_, ?_, ?_, ?_, ?_, ?_, ?_, ?_, ?_, ?_, trivial⟩
    · intro _ d a w hr hJ
      obtain ⟨v0, v1, v2, v3, v4, v5, v6, v7, v8, hk, hB, h2, h7, f0, f1, f2, f3, f4, f5, f6, f7, f8⟩ := hJ
      refine wa hk rfl rfl ?_
      refine a_call hk rfl rfl (c_fn (vs := []) hk rfl ok26) (c26 _) ?_
      rintro e w' ⟨v, rfl, new, hE⟩
      refine ⟨_, rfl, fun a hk => ?_⟩
      exact ⟨_, _, _, _, _, _, _, _, _, hk.sub _ ⟨rfl, rfl, rfl, rfl, rfl, rfl, rfl, rfl, rfl, rfl, rfl, rfl, trivial⟩, ext_trans hB hE, ext_at hE h2, ext_at hE h7, fun _ => new, fun h => f1 h, fun h => f2 h, fun h => f3 h, fun h => f4 h, fun h => f5 h, fun h => f6 h, fun h => f7 h, fun h => by have f := f8 h; exact by obtain ⟨b, e, g, cs, hz, h⟩ := f; exact ⟨b, e, g, cs, hz, ext_at hE h⟩⟩
    · intro _ d a w hr hJ
      obtain ⟨v0, v1, v2, v3, v4, v5, v6, v7, v8, hk, hB, h2, h7, f0, f1, f2, f3, f4, f5, f6, f7, f8⟩ := hJ
      refine wa hk rfl rfl ?_
      refine ev_act hk rfl rfl (e_move hk rfl _) fun a hk => ?_
      have new : (.func (.func 71) #[] #[.pointer (some ⟨b2, 0, none⟩)] : Value) = .func (.func 71) #[] #[.pointer (some ⟨b2, 0, none⟩)] := rfl
      exact ⟨_, _, _, _, _, _, _, _, _, hk.sub _ ⟨rfl, rfl, rfl, rfl, rfl, rfl, rfl, rfl, rfl, rfl, rfl, rfl, trivial⟩, hB, h2, h7, fun h => f0 h, fun _ => new, fun h => f2 h, fun h => f3 h, fun h => f4 h, fun h => f5 h, fun h => f6 h, fun h => f7 h, fun h => f8 h⟩
    · intro _ d a w hr hJ
      obtain ⟨v0, v1, v2, v3, v4, v5, v6, v7, v8, hk, hB, h2, h7, f0, f1, f2, f3, f4, f5, f6, f7, f8⟩ := hJ
      obtain rfl := f1 (rdy_pre hr 1 (by kernel_rfl))
      refine wa hk rfl rfl ?_
      refine a_call hk rfl rfl (c_val (first := []) (captured := [.pointer (some ⟨b2, 0, none⟩)]) hk rfl rfl ok71) (c71 92 k₁ b2 _ (kcell h2) hk1) ?_
      rintro e w' ⟨rfl, hE⟩
      refine ⟨_, rfl, fun a hk => ?_⟩
      have new : Str (pad64 k₁ 92) = Str (pad64 k₁ 92) := rfl
      have f1 : d 1 = true → (.func (.func 71) #[] #[.pointer (some ⟨b2, 0, none⟩)] : Value) = .func (.func 71) #[] #[.pointer (some ⟨b2, 0, none⟩)] := fun _ => rfl
      exact ⟨_, _, _, _, _, _, _, _, _, hk.sub _ ⟨rfl, rfl, rfl, rfl, rfl, rfl, rfl, rfl, rfl, rfl, rfl, rfl, trivial⟩, ext_trans hB hE, ext_at hE h2, ext_at hE h7, fun h => f0 h, fun h => f1 h, fun _ => new, fun h => f3 h, fun h => f4 h, fun h => f5 h, fun h => f6 h, fun h => f7 h, fun h => by have f := f8 h; exact by obtain ⟨b, e, g, cs, hz, h⟩ := f; exact ⟨b, e, g, cs, hz, ext_at hE h⟩⟩
    · intro _ d a w hr hJ
      obtain ⟨v0, v1, v2, v3, v4, v5, v6, v7, v8, hk, hB, h2, h7, f0, f1, f2, f3, f4, f5, f6, f7, f8⟩ := hJ
      obtain hIs := f0 (rdy_pre hr 0 (by kernel_rfl))
      obtain rfl := f2 (rdy_pre hr 2 (by kernel_rfl))
      refine wa hk rfl rfl ?_
      refine a_call hk rfl rfl (c_fn hk rfl ok27) (c27 [] (pad64 k₁ 92) _ _ hIs (hG.ext hB) (by simp [length_pad64 _ _ hk1])) ?_
      rintro e w' ⟨v, rfl, hIs', hE⟩
      refine ⟨_, rfl, fun a hk => ?_⟩
      have new : IsS (pad64 k₁ 92) v := hIs'
      have f2 : d 2 = true → Str (pad64 k₁ 92) = Str (pad64 k₁ 92) := fun _ => rfl
      exact ⟨_, _, _, _, _, _, _, _, _, hk.sub _ ⟨rfl, rfl, rfl, rfl, rfl, rfl, rfl, rfl, rfl, rfl, rfl, rfl, trivial⟩, ext_trans hB hE, ext_at hE h2, ext_at hE h7, fun h => f0 h, fun h => f1 h, fun h => f2 h, fun _ => new, fun h => f4 h, fun h => f5 h, fun h => f6 h, fun h => f7 h, fun h => by have f := f8 h; exact by obtain ⟨b, e, g, cs, hz, h⟩ := f; exact ⟨b, e, g, cs, hz, ext_at hE h⟩⟩
    · intro _ d a w hr hJ
      obtain ⟨v0, v1, v2, v3, v4, v5, v6, v7, v8, hk, hB, h2, h7, f0, f1, f2, f3, f4, f5, f6, f7, f8⟩ := hJ
      refine wa hk rfl rfl ?_
      refine ev_act hk rfl rfl (e_slA hk rfl Tryd.underlying24 sz5 _) fun a hk => ?_
      have new : Value.slice (some ⟨b7, 0, none⟩) 32 32 = Value.slice (some ⟨b7, 0, none⟩) 32 32 := rfl
      exact ⟨_, _, _, _, _, _, _, _, _, hk.sub _ ⟨rfl, rfl, rfl, rfl, rfl, rfl, rfl, rfl, rfl, rfl, rfl, rfl, trivial⟩, hB, h2, h7, fun h => f0 h, fun h => f1 h, fun h => f2 h, fun h => f3 h, fun _ => new, fun h => f5 h, fun h => f6 h, fun h => f7 h, fun h => f8 h⟩
    · intro _ d a w hr hJ
      obtain ⟨v0, v1, v2, v3, v4, v5, v6, v7, v8, hk, hB, h2, h7, f0, f1, f2, f3, f4, f5, f6, f7, f8⟩ := hJ
      obtain rfl := f4 (rdy_pre hr 4 (by kernel_rfl))
      refine wa hk rfl rfl ?_
      refine ev_act hk rfl rfl (e_str (bs := sha (pad64 k₁ 54 ++ text)) hk rfl (sha_row h7) Tryd.underlying22 Tryd.underlying5 Tryd.underlying9) fun a hk => ?_
      have new : Str (sha (pad64 k₁ 54 ++ text)) = Str (sha (pad64 k₁ 54 ++ text)) := rfl
      have f4 : d 4 = true → Value.slice (some ⟨b7, 0, none⟩) 32 32 = Value.slice (some ⟨b7, 0, none⟩) 32 32 := fun _ => rfl
      exact ⟨_, _, _, _, _, _, _, _, _, hk.sub _ ⟨rfl, rfl, rfl, rfl, rfl, rfl, rfl, rfl, rfl, rfl, rfl, rfl, trivial⟩, hB, h2, h7, fun h => f0 h, fun h => f1 h, fun h => f2 h, fun h => f3 h, fun h => f4 h, fun _ => new, fun h => f6 h, fun h => f7 h, fun h => f8 h⟩
    · intro _ d a w hr hJ
      obtain ⟨v0, v1, v2, v3, v4, v5, v6, v7, v8, hk, hB, h2, h7, f0, f1, f2, f3, f4, f5, f6, f7, f8⟩ := hJ
      obtain hIs := f3 (rdy_pre hr 3 (by kernel_rfl))
      obtain rfl := f5 (rdy_pre hr 5 (by kernel_rfl))
      refine wa hk rfl rfl ?_
      refine a_call hk rfl rfl (c_fn hk rfl ok27) (c27 _ (sha (pad64 k₁ 54 ++ text)) _ _ hIs (hG.ext hB) (by simp [length_pad64 _ _ hk1, length_sha])) ?_
      rintro e w' ⟨v, rfl, new, hE⟩
      refine ⟨_, rfl, fun a hk => ?_⟩
      have f5 : d 5 = true → Str (sha (pad64 k₁ 54 ++ text)) = Str (sha (pad64 k₁ 54 ++ text)) := fun _ => rfl
      exact ⟨_, _, _, _, _, _, _, _, _, hk.sub _ ⟨rfl, rfl, rfl, rfl, rfl, rfl, rfl, rfl, rfl, rfl, rfl, rfl, trivial⟩, ext_trans hB hE, ext_at hE h2, ext_at hE h7, fun h => f0 h, fun h => f1 h, fun h => f2 h, fun h => f3 h, fun h => f4 h, fun h => f5 h, fun _ => new, fun h => f7 h, fun h => by have f := f8 h; exact by obtain ⟨b, e, g, cs, hz, h⟩ := f; exact ⟨b, e, g, cs, hz, ext_at hE h⟩⟩
    · intro _ d a w hr hJ
      obtain ⟨v0, v1, v2, v3, v4, v5, v6, v7, v8, hk, hB, h2, h7, f0, f1, f2, f3, f4, f5, f6, f7, f8⟩ := hJ
      obtain hIs := f6 (rdy_pre hr 6 (by kernel_rfl))
      refine wa hk rfl rfl ?_
      refine a_call hk rfl rfl (c_fn hk rfl ok29) (c29 _ _ _ hIs (hG.ext hB) (by simp [length_pad64 _ _ hk1, length_sha])) ?_
      rintro e w' ⟨rfl, hE⟩
      refine ⟨_, rfl, fun a hk => ?_⟩
      have new : Value.agg ((sha (pad64 k₁ 92 ++ sha (pad64 k₁ 54 ++ text))).map B).toArray = Value.agg ((sha (pad64 k₁ 92 ++ sha (pad64 k₁ 54 ++ text))).map B).toArray := rfl
      exact ⟨_, _, _, _, _, _, _, _, _, hk.sub _ ⟨rfl, rfl, rfl, rfl, rfl, rfl, rfl, rfl, rfl, rfl, rfl, rfl, trivial⟩, ext_trans hB hE, ext_at hE h2, ext_at hE h7, fun h => f0 h, fun h => f1 h, fun h => f2 h, fun h => f3 h, fun h => f4 h, fun h => f5 h, fun h => f6 h, fun _ => new, fun h => by have f := f8 h; exact by obtain ⟨b, e, g, cs, hz, h⟩ := f; exact ⟨b, e, g, cs, hz, ext_at hE h⟩⟩
    · intro _ d a w hr hJ
      obtain ⟨v0, v1, v2, v3, v4, v5, v6, v7, v8, hk, hB, h2, h7, f0, f1, f2, f3, f4, f5, f6, f7, f8⟩ := hJ
      refine wa hk rfl rfl ?_
      refine a_alloc hk rfl zr24 fun a w' b8 hk G8 => ?_
      have hE := G8.ext
      have new : ∃ b, (Value.pointer (some ⟨b8, 0, none⟩)) = .pointer (some ⟨b, 0, none⟩) ∧ w0.heap.size ≤ b ∧ ∃ cs : Array Value, cs.size = 32 ∧ w'.heap[b]? = some (.cells cs 24 (0, 0)) := ⟨_, rfl, Nat.le_trans hB.size G8.ge, _, rfl, G8.at_⟩
      exact ⟨_, _, _, _, _, _, _, _, _, hk.sub _ ⟨rfl, rfl, rfl, rfl, rfl, rfl, rfl, rfl, rfl, rfl, rfl, rfl, trivial⟩, ext_trans hB hE, ext_at hE h2, ext_at hE h7, fun h => f0 h, fun h => f1 h, fun h => f2 h, fun h => f3 h, fun h => f4 h, fun h => f5 h, fun h => f6 h, fun h => f7 h, fun _ => new⟩
    · intro h; cases h
  refine wp_seq_k fun K7 hK7 => ?_
  refine wp_region_lit ?_
  refine ls hk rfl rfl rfl (r_load (v := Str key) hk rfl Tryd.underlying9 rfl h2 rfl) fun a hk => ?_
  refine ls hk rfl rfl rfl (e_lenStr hk rfl Tryd.underlying9 _) fun a hk => ?_
  refine ls hk rfl rfl rfl (e_gtr hk rfl rfl rfl _) fun a hk => ?_
  refine lnil (hK7 _ _ ?_)
  refine cdB hk rfl (fun hb => ?_) (fun hb => ?_)
  · have hlong : key.length > 64 := by have := of_decide_eq_true hb; omega
    refine wp_seq_k fun K8 hK8 => ?_
    refine wp_region_lit ?_
    refine ls hk rfl rfl rfl (r_load (v := Str key) hk rfl Tryd.underlying9 rfl h2 rfl) fun a hk => ?_
    refine la hk rfl (a_bytes hk rfl rfl Tryd.underlying9 Tryd.underlying22 Tryd.underlying5 fun a w bb cc hk hgb hE hRb => ?_)
    have h2 := ext_at hE h2
    have hB := ext_trans hB hE
    refine la hk rfl (a_call hk rfl rfl (c_fn hk rfl ok23) (c23 key _ _ _ _ hRb (hG.ext hB) (by omega)) ?_)
    rintro e w ⟨rfl, hE⟩
    refine ⟨_, rfl, fun a hk => ?_⟩
    have h2 := ext_at hE h2
    have hB := ext_trans hB hE
    refine la hk rfl (a_alloc hk rfl zr24 fun a w b5 hk G5 => ?_)
    refine la hk rfl (a_storeB hk rfl rfl (bytes_oneA _) (by rw [sz24]; simp [length_sha]) G5.at_ (by simp [length_sha, Value.cells]) fun a w hk W2 => ?_)
    have h2 := W2.keep (G5.ne h2) (ext_at G5.ext h2)
    have hB := W2.below (ext_trans hB G5.ext) (Nat.le_trans hB.size G5.ge)
    have h5 := W2.at_
    refine lnil (hK8 _ _ ?_)
    refine wp_region_lit ?_
    refine ls hk rfl rfl rfl (e_slA hk rfl Tryd.underlying24 sz5 _) fun a hk => ?_
    refine ls hk rfl rfl rfl (e_str (bs := sha key) hk rfl (sha_row h5) Tryd.underlying22 Tryd.underlying5 Tryd.underlying9) fun a hk => ?_
    refine la hk rfl (a_store hk rfl rfl rfl sz9 h2 Nat.zero_lt_one fun a w hk W3 => ?_)
    have hB := W3.below hB hg2
    have h2 : w.heap[b2]? = some (.cells #[Str (sha key)] 9 (0, 0)) := W3.at_
    refine lnil (hJ2 _ _ ⟨hk.sub _ ⟨rfl, rfl, trivial⟩, hB, by first | (rw [if_pos hlong]; exact h2) | (rw [if_neg hshort]; exact h2)⟩)
  · have hshort : ¬ key.length > 64 := by have := of_decide_eq_false hb; omega
    refine wp_skip (hJ2 _ _ ⟨hk.sub _ ⟨rfl, rfl, trivial⟩, hB, by first | (rw [if_pos hlong]; exact h2) | (rw [if_neg hshort]; exact h2)⟩)

end Go.Proofs.YtidfbboalbchiaaDoor

namespace Go.Proofs.YtidfbboalbchiaaDoor
open Go Go.RowKit

theorem then_ret {K : Act → World → Prop} {Q : Exit → Act → World → Prop} {a : Act} {w : World} : Exit.then K Q .ret a w = Q .ret a w := rfl
theorem or_zero (x y : UInt8) : x ||| y = 0 ↔ x = 0 ∧ y = 0 := by
  constructor
  · intro h
    have h1 : x.toBitVec ||| y.toBitVec = 0#8 := congrArg UInt8.toBitVec h
    have h2 : x.toBitVec = 0#8 := by
      apply BitVec.eq_of_getLsbD_eq
      intro i hi
      have := congrArg (fun v => v.getLsbD i) h1
      simp at this ⊢
      exact this.1
    have h3 : y.toBitVec = 0#8 := by
      apply BitVec.eq_of_getLsbD_eq
      intro i hi
      have := congrArg (fun v => v.getLsbD i) h1
      simp at this ⊢
      exact this.2
    exact ⟨UInt8.toBitVec_inj.1 h2, UInt8.toBitVec_inj.1 h3⟩
  · rintro ⟨rfl, rfl⟩; rfl
theorem xor_zero (x y : UInt8) : x ^^^ y = 0 ↔ x = y := by
  constructor
  · intro h
    have h1 : x.toBitVec ^^^ y.toBitVec = 0#8 := congrArg UInt8.toBitVec h
    exact UInt8.toBitVec_inj.1 (BitVec.xor_eq_zero_iff.1 h1)
  · rintro rfl
    exact UInt8.xor_self
theorem take_eq_succ (s t : List UInt8) (j : Nat) (x y : UInt8) (hx : s[j]? = some x) (hy : t[j]? = some y) : s.take (j + 1) = t.take (j + 1) ↔ s.take j = t.take j ∧ x = y := by
  obtain ⟨h1, rfl⟩ := List.getElem?_eq_some_iff.1 hx
  obtain ⟨h2, rfl⟩ := List.getElem?_eq_some_iff.1 hy
  rw [List.take_add_one, List.take_add_one, List.getElem?_eq_getElem h1, List.getElem?_eq_getElem h2]
  constructor
  · intro h
    have := List.append_inj h (by simp; omega)
    exact ⟨this.1, by simpa using this.2⟩
  · rintro ⟨h, e⟩
    rw [h, e]

set_option maxRecDepth 4000 in
set_option maxHeartbeats 1000000 in
theorem c43 (s t : List UInt8) (w0 : World) (hl0 : s.length ≤ 1000000000) :
    Calls Tryd.prog 43 #[Str s, Str t] w0 fun e w' => e = .returned (.bool (decide (s = t))) ∧ Ext w0 w' := by
  refine start 29 Tryd.func43 rfl rfl rfl fun a hk => ?_
  refine wp_seq_k fun K1 hK1 => ?_
  refine wp_region_lit ?_
  refine ls hk rfl rfl rfl (e_assign hk rfl _) fun a hk => ?_
  refine lnil (hK1 _ _ ?_)
  refine wp_seq_k fun K2 hK2 => ?_
  refine wp_seq_k fun K3 hK3 => ?_
  refine wp_region_lit ?_
  refine ls hk rfl rfl rfl (e_move hk rfl _) fun a hk => ?_
  refine ls hk rfl rfl rfl (e_lenStr hk rfl Tryd.underlying9 _) fun a hk => ?_
  refine ls hk rfl rfl rfl (e_move hk rfl _) fun a hk => ?_
  refine ls hk rfl rfl rfl (e_lenStr hk rfl Tryd.underlying9 _) fun a hk => ?_
  refine ls hk rfl rfl rfl (e_neq hk rfl rfl rfl _) fun a hk => ?_
  refine lnil (hK3 _ _ ?_)
  refine cdB hk rfl (fun hb => ?_) (fun hb => ?_)
  · have hne : s ≠ t := by
      rintro rfl
      simp at hb
    refine wp_seq_k fun K4 hK4 => ?_
    refine wp_region_lit ?_
    refine ls hk rfl rfl rfl (e_assign hk rfl _) fun a hk => ?_
    refine lnil (hK4 _ _ ?_)
    refine wp_ret ?_
    simp only [then_ret]
    refine ret1 hk rfl rfl ⟨by simp [hne], Below.refl _ _⟩
  · have hl : s.length = t.length := by
      have h : (s.length : Int) = t.length := by simpa using hb
      omega
    refine wp_skip (hK2 _ _ ?_)
    refine wp_seq_k fun K5 hK5 => ?_
    refine wp_region_lit ?_
    refine ls hk rfl rfl rfl (e_assign hk rfl _) fun a hk => ?_
    refine lnil (hK5 _ _ ?_)
    refine wp_seq_k fun K6 hK6 => ?_
    refine wp_seq_k fun K7 hK7 => ?_
    refine wp_region_lit ?_
    refine ls hk rfl rfl rfl (e_move hk rfl _) fun a hk => ?_
    refine ls hk rfl rfl rfl (e_lenStr hk rfl Tryd.underlying9 _) fun a hk => ?_
    refine ls hk rfl rfl rfl (e_move hk rfl _) fun a hk => ?_
    refine lnil (hK7 _ _ ?_)
    refine wp_block ?_
    refine loopN (fun n a w => ∃ (j : Nat) (x : UInt8), n = s.length - j ∧ j ≤ s.length ∧ (x = 0 ↔ s.take j = t.take j) ∧ Kn a 29 [(0, Str s), (1, Str t), (5, B x), (13, I s.length), (14, I j)] ∧ Below w0.heap.size w0 w) (s.length) ?_ fun n a w hI => ?_
    · exact ⟨0, 0, rfl, Nat.zero_le _, by simp, hk.sub _ ⟨rfl, rfl, rfl, rfl, rfl, trivial⟩, Below.refl _ _⟩
    obtain ⟨j, x, rfl, hj, hx, hk, hB⟩ := hI
    refine wp_seq_k fun K8 hK8 => ?_
    refine wp_region_lit ?_
    refine ls hk rfl rfl rfl (e_lss hk rfl rfl rfl _) fun a hk => ?_
    refine lnil (hK8 _ _ ?_)
    refine wp_seq_k fun K9 hK9 => ?_
    refine cdB hk rfl (fun hb => ?_) (fun hb => ?_)
    · have hjl : j < s.length := by have := of_decide_eq_true hb; omega
      have hs9 : j < 9223372036854775807 := by omega
      obtain ⟨p, hp⟩ : ∃ p, s[j]? = some p := ⟨_, List.getElem?_eq_getElem hjl⟩
      obtain ⟨q, hq⟩ : ∃ q, t[j]? = some q := ⟨_, List.getElem?_eq_getElem (by omega)⟩
      refine wp_skip (hK9 _ _ ?_)
      refine wp_seq_k fun K10 hK10 => ?_
      refine wp_block ?_
      refine wp_seq_k fun K11 hK11 => ?_
      refine wp_region_lit ?_
      refine ls hk rfl rfl rfl (e_move hk rfl _) fun a hk => ?_
      refine ls hk rfl rfl rfl (e_assign hk rfl _) fun a hk => ?_
      refine lnil (hK11 _ _ ?_)
      refine wp_region_ok (fun _ => True) [0, 0, 0, 0, 0, 0, 0, 0, 0, 0] mixed ?_
      refine d0 0 hk rfl (by kernel_rfl) rfl rfl rfl rfl (fun _ => e_move hk rfl _) fun a hk => ?_
      refine d0 1 hk rfl (by kernel_rfl) rfl rfl rfl rfl (fun _ => e_move hk rfl _) fun a hk => ?_
      refine d0 2 hk rfl (by kernel_rfl) rfl rfl rfl rfl (fun _ => e_move hk rfl _) fun a hk => ?_
      refine d0 3 hk rfl (by kernel_rfl) rfl rfl rfl rfl (fun _ => e_idxStr (c := p) hk rfl rfl Tryd.underlying9 (by omega) (by simpa using hp) _) fun a hk => ?_
      refine d0 4 hk rfl (by kernel_rfl) rfl rfl rfl rfl (fun _ => e_move hk rfl _) fun a hk => ?_
      refine d0 5 hk rfl (by kernel_rfl) rfl rfl rfl rfl (fun _ => e_move hk rfl _) fun a hk => ?_
      refine d0 6 hk rfl (by kernel_rfl) rfl rfl rfl rfl (fun _ => e_idxStr (c := q) hk rfl rfl Tryd.underlying9 (by omega) (by simpa using hq) _) fun a hk => ?_
      refine d0 7 hk rfl (by kernel_rfl) rfl rfl rfl rfl (fun _ => e_xor hk rfl rfl (b_xor _ _) _) fun a hk => ?_
      refine d0 8 hk rfl (by kernel_rfl) rfl rfl rfl rfl (fun _ => e_or hk rfl rfl (b_or _ _) _) fun a hk => ?_
      refine d0 9 hk rfl (by kernel_rfl) rfl rfl rfl rfl (fun _ => e_assign hk rfl _) fun a hk => ?_
      refine okFin (by kernel_rfl) (hK10 _ _ ?_)
      refine wp_region_lit ?_
      refine ls hk rfl rfl rfl (e_add hk rfl rfl (i64 (by omega) (by omega)) _) fun a hk => ?_
      refine ls hk rfl rfl rfl (e_move hk rfl _) fun a hk => ?_
      refine lnil (show ∃ m : Nat, m < _ ∧ _ from ⟨s.length - (j + 1), by omega, j + 1, _, rfl, by omega, by rw [take_eq_succ s t j p q hp hq, or_zero, hx, xor_zero], hk.sub _ ⟨rfl, rfl, rfl, rfl, rfl, trivial⟩, hB.drew⟩)
    · have hjl : j = s.length := by have := of_decide_eq_false hb; omega
      subst hjl
      rw [List.take_length, hl, List.take_length] at hx
      refine wp_exit (hK6 _ _ ?_)
      refine wp_seq_k fun K12 hK12 => ?_
      refine wp_region_lit ?_
      refine ls hk rfl rfl rfl (e_move hk rfl _) fun a hk => ?_
      refine ls hk rfl rfl rfl (e_eql (b := decide (s = t)) hk rfl rfl (by rw [decide_eq_decide, ← hx]; exact ⟨fun h => UInt8.toNat.inj (by simpa using h), fun h => by subst h; rfl⟩) _) fun a hk => ?_
      refine ls hk rfl rfl rfl (e_assign hk rfl _) fun a hk => ?_
      refine lnil (hK12 _ _ ?_)
      refine wp_ret ?_
      refine ret1 hk rfl rfl ⟨rfl, hB⟩

set_option maxRecDepth 4000 in
set_option maxHeartbeats 1000000 in
theorem c32 (l : List UInt8) (w0 : World) (hl : l.length = 32) :
    Calls Tryd.prog 32 #[.agg (l.map B).toArray] w0 fun e w' => e = .returned (Str l) ∧ Ext w0 w' := by
  refine start 17 Tryd.func32 rfl rfl rfl fun a hk => ?_
  refine wp_seq_k fun K1 hK1 => ?_
  refine wp_region_lit ?_
  refine la hk rfl (a_box hk rfl rfl fun a w b1 hk G1 => ?_)
  refine ls hk rfl rfl rfl (e_assign hk rfl _) fun a hk => ?_
  have hB : Below w0.heap.size w0 w := G1.ext
  have h1 : w.heap[b1]? = some (.cells (l.map B).toArray 24 (0, 0)) := G1.at_
  have hg1 := G1.ge
  have hCC := hB.size
  clear G1
  refine lnil (hK1 _ _ ?_)
  refine wp_seq_k fun K2 hK2 => ?_
  refine wp_region_lit ?_
  refine ls hk rfl rfl rfl (e_assign hk rfl _) fun a hk => ?_
  refine lnil (hK2 _ _ ?_)
  refine wp_seq_k fun K3 hK3 => ?_
  refine wp_seq_k fun K4 hK4 => ?_
  refine wp_region_lit ?_
  refine ls hk rfl rfl rfl (e_assign hk rfl _) fun a hk => ?_
  refine lnil (hK4 _ _ ?_)
  refine wp_block ?_
  refine loopN (fun n a w => ∃ (j : Nat) (ad : Option Addr) (c : Nat), n = 32 - j ∧ j ≤ 32 ∧ Kn a 17 [(1, .pointer (some ⟨b1, 0, none⟩)), (3, .slice ad j c), (4, I j)] ∧ Below w0.heap.size w0 w ∧ b1 < w.heap.size ∧ w.heap[b1]? = some (.cells (l.map B).toArray 24 (0, 0)) ∧ w.ownsRow (b1 + 1) 5 1 (.slice ad j c) j ((l.take j).map B)) (32) ?_ fun n a w hI => ?_
  · exact ⟨0, none, 0, rfl, by omega, hk.sub _ ⟨rfl, rfl, rfl, trivial⟩, hB, heap_lt h1, h1, own_nil⟩
  clear hB h1 hCC
  obtain ⟨j, ad, c, rfl, hj, hk, hB, hCC, h1, hown⟩ := hI
  refine wp_seq_k fun K5 hK5 => ?_
  refine wp_seq_k fun K6 hK6 => ?_
  refine wp_region_lit ?_
  refine ls hk rfl rfl rfl (e_move hk rfl _) fun a hk => ?_
  refine ls hk rfl rfl rfl (e_lss hk rfl rfl rfl _) fun a hk => ?_
  refine lnil (hK6 _ _ ?_)
  refine cdB hk rfl (fun hb => ?_) (fun hb => ?_)
  · have hjl : j < l.length := by have := of_decide_eq_true hb; omega
    have hjn : j < 32 := by omega
    refine wp_skip (hK5 _ _ ?_)
    refine wp_seq_k fun K7 hK7 => ?_
    refine wp_block ?_
    refine wp_region_lit ?_
    refine ls hk rfl rfl rfl (e_move hk rfl _) fun a hk => ?_
    refine ls hk rfl rfl rfl (e_move hk rfl _) fun a hk => ?_
    refine ls hk rfl rfl rfl (e_idxA1 j hk rfl rfl Tryd.underlying24 sz5 rfl hjn _) fun a hk => ?_
    refine ls hk rfl rfl rfl (r_load (v := B l[j]) hk rfl Tryd.underlying5 rfl h1 (by simp [hjl])) fun a hk => ?_
    refine la hk rfl (a_lit (cells := #[B (l[j])]) (zv := .int .u8 0) (sz := 1) (by_ := 1) hk rfl rfl Tryd.underlying22 el5 (by decide) (by decide) (lit1 _ _ rfl) rfl fun a w bl hk GL => ?_)
    have hown := own_ext hown GL.ext
    have h1 := ext_at GL.ext h1
    have hB := ext_trans hB GL.ext
    have hRd := lit_byte _ GL
    have hCC := Nat.lt_of_lt_of_le hCC GL.ext.size
    clear GL
    refine la hk rfl (a_app hk rfl rfl hown rfl hRd (bytes_one _) Tryd.underlying22 el5 rfl (by decide) (by omega) (by omega) hCC fun a w v hk hown' hKp => ?_)
    have hB := kept_below hKp hB hown (Nat.le_trans hg1 (Nat.le_succ _)) hB.size
    have h1 := kept_lt hKp hown (Nat.lt_succ_self _) h1
    have hCC := Nat.lt_of_lt_of_le hCC hKp.size
    clear hown hKp hRd
    obtain ⟨ad, c, rfl, _, _⟩ := Rd.of_own hown'
    have hown : w.ownsRow (b1 + 1) 5 1 (.slice ad (j + 1) c) (j + 1) ((l.take (j + 1)).map B) := by
      rw [List.take_add_one, List.getElem?_eq_getElem hjl, List.map_append]; exact hown'
    clear hown'
    refine ls hk rfl rfl rfl (e_assign hk rfl _) fun a hk => ?_
    refine lnil (hK7 _ _ ?_)
    refine wp_region_lit ?_
    refine ls hk rfl rfl rfl (e_move hk rfl _) fun a hk => ?_
    refine ls hk rfl rfl rfl (e_add hk rfl rfl (i64 (by omega) (by omega)) _) fun a hk => ?_
    refine ls hk rfl rfl rfl (e_assign hk rfl _) fun a hk => ?_
    refine lnil (show ∃ m : Nat, m < _ ∧ _ from ⟨32 - (j + 1), by omega, j + 1, ad, c, rfl, by omega, hk.sub _ ⟨rfl, rfl, rfl, trivial⟩, hB, hCC, h1, hown⟩)
  · have hjl : j = l.length := by have := of_decide_eq_false hb; omega
    subst hjl
    rw [List.take_length] at hown
    refine wp_exit (hK3 _ _ ?_)
    refine wp_seq_k fun K8 hK8 => ?_
    obtain ⟨_, _, hv, _, hRe⟩ := Rd.of_own hown
    cases hv
    refine wp_region_lit ?_
    refine ls hk rfl rfl rfl (e_move hk rfl _) fun a hk => ?_
    refine ls hk rfl rfl rfl (e_str (bs := l) hk rfl hRe Tryd.underlying22 Tryd.underlying5 Tryd.underlying9) fun a hk => ?_
    refine ls hk rfl rfl rfl (e_assign hk rfl _) fun a hk => ?_
    refine lnil (hK8 _ _ ?_)
    refine wp_ret ?_
    exact ret1 hk rfl rfl ⟨rfl, hB⟩

set_option maxRecDepth 4000 in
set_option maxHeartbeats 1000000 in
theorem c66 (l : List UInt8) (w0 : World) (hl : l.length = 16) :
    Calls Tryd.prog 66 #[.agg (l.map B).toArray] w0 fun e w' => e = .returned (Str l) ∧ Ext w0 w' := by
  refine start 17 Tryd.func66 rfl rfl rfl fun a hk => ?_
  refine wp_seq_k fun K1 hK1 => ?_
  refine wp_region_lit ?_
  refine la hk rfl (a_box hk rfl rfl fun a w b1 hk G1 => ?_)
  refine ls hk rfl rfl rfl (e_assign hk rfl _) fun a hk => ?_
  have hB : Below w0.heap.size w0 w := G1.ext
  have h1 : w.heap[b1]? = some (.cells (l.map B).toArray 44 (0, 0)) := G1.at_
  have hg1 := G1.ge
  have hCC := hB.size
  clear G1
  refine lnil (hK1 _ _ ?_)
  refine wp_seq_k fun K2 hK2 => ?_
  refine wp_region_lit ?_
  refine ls hk rfl rfl rfl (e_assign hk rfl _) fun a hk => ?_
  refine lnil (hK2 _ _ ?_)
  refine wp_seq_k fun K3 hK3 => ?_
  refine wp_seq_k fun K4 hK4 => ?_
  refine wp_region_lit ?_
  refine ls hk rfl rfl rfl (e_assign hk rfl _) fun a hk => ?_
  refine lnil (hK4 _ _ ?_)
  refine wp_block ?_
  refine loopN (fun n a w => ∃ (j : Nat) (ad : Option Addr) (c : Nat), n = 16 - j ∧ j ≤ 16 ∧ Kn a 17 [(1, .pointer (some ⟨b1, 0, none⟩)), (3, .slice ad j c), (4, I j)] ∧ Below w0.heap.size w0 w ∧ b1 < w.heap.size ∧ w.heap[b1]? = some (.cells (l.map B).toArray 44 (0, 0)) ∧ w.ownsRow (b1 + 1) 5 1 (.slice ad j c) j ((l.take j).map B)) (16) ?_ fun n a w hI => ?_
  · exact ⟨0, none, 0, rfl, by omega, hk.sub _ ⟨rfl, rfl, rfl, trivial⟩, hB, heap_lt h1, h1, own_nil⟩
  clear hB h1 hCC
  obtain ⟨j, ad, c, rfl, hj, hk, hB, hCC, h1, hown⟩ := hI
  refine wp_seq_k fun K5 hK5 => ?_
  refine wp_seq_k fun K6 hK6 => ?_
  refine wp_region_lit ?_
  refine ls hk rfl rfl rfl (e_move hk rfl _) fun a hk => ?_
  refine ls hk rfl rfl rfl (e_lss hk rfl rfl rfl _) fun a hk => ?_
  refine lnil (hK6 _ _ ?_)
  refine cdB hk rfl (fun hb => ?_) (fun hb => ?_)
  · have hjl : j < l.length := by have := of_decide_eq_true hb; omega
    have hjn : j < 16 := by omega
    refine wp_skip (hK5 _ _ ?_)
    refine wp_seq_k fun K7 hK7 => ?_
    refine wp_block ?_
    refine wp_region_lit ?_
    refine ls hk rfl rfl rfl (e_move hk rfl _) fun a hk => ?_
    refine ls hk rfl rfl rfl (e_move hk rfl _) fun a hk => ?_
    refine ls hk rfl rfl rfl (e_idxA1 j hk rfl rfl Tryd.underlying44 sz5 rfl hjn _) fun a hk => ?_
    refine ls hk rfl rfl rfl (r_load (v := B l[j]) hk rfl Tryd.underlying5 rfl h1 (by simp [hjl])) fun a hk => ?_
    refine la hk rfl (a_lit (cells := #[B (l[j])]) (zv := .int .u8 0) (sz := 1) (by_ := 1) hk rfl rfl Tryd.underlying22 el5 (by decide) (by decide) (lit1 _ _ rfl) rfl fun a w bl hk GL => ?_)
    have hown := own_ext hown GL.ext
    have h1 := ext_at GL.ext h1
    have hB := ext_trans hB GL.ext
    have hRd := lit_byte _ GL
    have hCC := Nat.lt_of_lt_of_le hCC GL.ext.size
    clear GL
    refine la hk rfl (a_app hk rfl rfl hown rfl hRd (bytes_one _) Tryd.underlying22 el5 rfl (by decide) (by omega) (by omega) hCC fun a w v hk hown' hKp => ?_)
    have hB := kept_below hKp hB hown (Nat.le_trans hg1 (Nat.le_succ _)) hB.size
    have h1 := kept_lt hKp hown (Nat.lt_succ_self _) h1
    have hCC := Nat.lt_of_lt_of_le hCC hKp.size
    clear hown hKp hRd
    obtain ⟨ad, c, rfl, _, _⟩ := Rd.of_own hown'
    have hown : w.ownsRow (b1 + 1) 5 1 (.slice ad (j + 1) c) (j + 1) ((l.take (j + 1)).map B) := by
      rw [List.take_add_one, List.getElem?_eq_getElem hjl, List.map_append]; exact hown'
    clear hown'
    refine ls hk rfl rfl rfl (e_assign hk rfl _) fun a hk => ?_
    refine lnil (hK7 _ _ ?_)
    refine wp_region_lit ?_
    refine ls hk rfl rfl rfl (e_move hk rfl _) fun a hk => ?_
    refine ls hk rfl rfl rfl (e_add hk rfl rfl (i64 (by omega) (by omega)) _) fun a hk => ?_
    refine ls hk rfl rfl rfl (e_assign hk rfl _) fun a hk => ?_
    refine lnil (show ∃ m : Nat, m < _ ∧ _ from ⟨16 - (j + 1), by omega, j + 1, ad, c, rfl, by omega, hk.sub _ ⟨rfl, rfl, rfl, trivial⟩, hB, hCC, h1, hown⟩)
  · have hjl : j = l.length := by have := of_decide_eq_false hb; omega
    subst hjl
    rw [List.take_length] at hown
    refine wp_exit (hK3 _ _ ?_)
    refine wp_seq_k fun K8 hK8 => ?_
    obtain ⟨_, _, hv, _, hRe⟩ := Rd.of_own hown
    cases hv
    refine wp_region_lit ?_
    refine ls hk rfl rfl rfl (e_move hk rfl _) fun a hk => ?_
    refine ls hk rfl rfl rfl (e_str (bs := l) hk rfl hRe Tryd.underlying22 Tryd.underlying5 Tryd.underlying9) fun a hk => ?_
    refine ls hk rfl rfl rfl (e_assign hk rfl _) fun a hk => ?_
    refine lnil (hK8 _ _ ?_)
    refine wp_ret ?_
    exact ret1 hk rfl rfl ⟨rfl, hB⟩

def hexA : List UInt8 := [48, 49, 50, 51, 52, 53, 54, 55, 56, 57, 97, 98, 99, 100, 101, 102]
def hex2 (c : UInt8) : List UInt8 := [hexA.getD (c.toNat / 16) 0, hexA.getD (c.toNat % 16) 0]
def hexL (s : List UInt8) : List UInt8 := (s.map hex2).flatten
theorem hexA_get (n : Nat) (h : n < 16) : hexA[n]? = some (hexA.getD n 0) := by
  have : n < hexA.length := h
  simp [List.getD, List.getElem?_eq_getElem this]
theorem length_hexL (s : List UInt8) : (hexL s).length = 2 * s.length := by
  induction s with
  | nil => rfl
  | cons c r ih =>
    have e : hexL (c :: r) = hex2 c ++ hexL r := rfl
    rw [e, List.length_append, ih, show (hex2 c).length = 2 from rfl, List.length_cons]; omega
theorem hexL_take (s : List UInt8) (j : Nat) (c : UInt8) (h : s[j]? = some c) : hexL (s.take (j + 1)) = hexL (s.take j) ++ hex2 c := by
  obtain ⟨hj, rfl⟩ := List.getElem?_eq_some_iff.1 h
  unfold hexL
  rw [List.take_add_one, List.getElem?_eq_getElem hj]
  simp only [Option.toList_some, List.map_append, List.flatten_append, List.map_cons, List.map_nil, List.flatten_cons, List.flatten_nil, List.append_nil]
theorem u8_lt (c : UInt8) : c.toNat < 256 := c.toNat_lt
theorem w8_small (n : Nat) (h : n < 256) : IntKind.u8.wrap (n : Int) = (n : Int) := by rw [wrap8u]; omega

theorem lit2 (z v u : Value) (hv : v.cells = #[v]) (hu : u.cells = #[u]) : Instr.fill (fun i => some (i * 1, 1)) ((Array.range (2 * 1)).map (z.cells[· % z.cells.size]!)) [(0, v), (1, u)] = some #[v, u] := by
  have hr : Array.range 2 = #[0, 1] := by decide
  have h : ∀ p q : Value, (#[p, q] : Array Value).setIfInBounds 0 v = #[v, q] := fun _ _ => rfl
  have h' : ∀ p q : Value, (#[p, q] : Array Value).setIfInBounds 1 u = #[p, u] := fun _ _ => rfl
  simp [Instr.fill, hv, hu, hr, h, h']

set_option maxRecDepth 4000 in
set_option maxHeartbeats 1000000 in
theorem c65 (s : List UInt8) (w0 : World) (hl : s.length ≤ 1000000) :
    Calls Tryd.prog 65 #[Str s] w0 fun e w' => e = .returned (Str (hexL s)) ∧ Ext w0 w' := by
  refine start 29 Tryd.func65 rfl rfl rfl fun a hk => ?_
  refine wp_seq_k fun K1 hK1 => ?_
  refine wp_region_lit ?_
  refine ls hk rfl rfl rfl (e_assign hk rfl _) fun a hk => ?_
  refine lnil (hK1 _ _ ?_)
  refine wp_seq_k fun K2 hK2 => ?_
  refine wp_region_lit ?_
  refine ls hk rfl rfl rfl (e_assign hk rfl _) fun a hk => ?_
  refine lnil (hK2 _ _ ?_)
  refine wp_seq_k fun K3 hK3 => ?_
  refine wp_region_lit ?_
  refine ls hk rfl rfl rfl (e_assign hk rfl _) fun a hk => ?_
  refine lnil (hK3 _ _ ?_)
  refine wp_seq_k fun K4 hK4 => ?_
  refine wp_seq_k fun K5 hK5 => ?_
  refine wp_region_lit ?_
  refine ls hk rfl rfl rfl (e_assign hk rfl _) fun a hk => ?_
  refine lnil (hK5 _ _ ?_)
  refine wp_block ?_
  refine loopN (fun n a w => ∃ (j m : Nat) (ad : Option Addr) (cc : Nat), n = s.length - j ∧ j ≤ s.length ∧ m = 2 * j ∧ Kn a 29 [(0, Str s), (3, Str hexA), (4, .slice ad m cc), (5, I j)] ∧ Below w0.heap.size w0 w ∧ w0.heap.size ≤ w.heap.size ∧ w.ownsRow w0.heap.size 5 1 (.slice ad m cc) m ((hexL (s.take j)).map B)) (s.length) ?_ fun n a w hI => ?_
  · exact ⟨0, 0, none, 0, rfl, Nat.zero_le _, rfl, hk.sub _ ⟨rfl, rfl, rfl, rfl, trivial⟩, Below.refl _ _, Nat.le_refl _, own_nil⟩
  obtain ⟨j, m, ad, cc, rfl, hj, hm, hk, hB, hCC, hown⟩ := hI
  refine wp_seq_k fun K6 hK6 => ?_
  refine wp_seq_k fun K7 hK7 => ?_
  refine wp_region_lit ?_
  refine ls hk rfl rfl rfl (e_move hk rfl _) fun a hk => ?_
  refine ls hk rfl rfl rfl (e_move hk rfl _) fun a hk => ?_
  refine ls hk rfl rfl rfl (e_lenStr hk rfl Tryd.underlying9 _) fun a hk => ?_
  refine ls hk rfl rfl rfl (e_lss hk rfl rfl rfl _) fun a hk => ?_
  refine lnil (hK7 _ _ ?_)
  refine cdB hk rfl (fun hb => ?_) (fun hb => ?_)
  · have hjl : j < s.length := by have := of_decide_eq_true hb; omega
    obtain ⟨c, hc⟩ : ∃ c, s[j]? = some c := ⟨_, List.getElem?_eq_getElem hjl⟩
    have hc8 := u8_lt c
    refine wp_skip (hK6 _ _ ?_)
    refine wp_seq_k fun K8 hK8 => ?_
    refine wp_block ?_
    refine wp_region_ok (fun _ => True) [0, 0, 0, 0, 0, 0, 0, 0, 0, 0, 0, 0, 0, 2, 2, 0] mixed ?_
    have hB := hB.drew
    have hown : w.drew.ownsRow w0.heap.size 5 1 (.slice ad m cc) m ((hexL (s.take j)).map B) := own_ext hown (ext_drew _)
    have hCC : w0.heap.size ≤ w.drew.heap.size := hB.size
    refine d0 0 hk rfl (by kernel_rfl) rfl rfl rfl rfl (fun _ => e_move hk rfl _) fun a hk => ?_
    refine d0 1 hk rfl (by kernel_rfl) rfl rfl rfl rfl (fun _ => e_move hk rfl _) fun a hk => ?_
    refine d0 2 hk rfl (by kernel_rfl) rfl rfl rfl rfl (fun _ => e_move hk rfl _) fun a hk => ?_
    refine d0 3 hk rfl (by kernel_rfl) rfl rfl rfl rfl (fun _ => e_move hk rfl _) fun a hk => ?_
    refine d0 4 hk rfl (by kernel_rfl) rfl rfl rfl rfl (fun _ => e_idxStr (c := c) hk rfl rfl Tryd.underlying9 (by omega) (by simpa using hc) _) fun a hk => ?_
    refine d0 5 hk rfl (by kernel_rfl) rfl rfl rfl rfl (fun _ => e_quo (q := ((c.toNat / 16 : Nat) : Int)) hk rfl rfl (by decide) (by rw [show ((c.toNat : Int)).tdiv 16 = ((c.toNat / 16 : Nat) : Int) from i_quo c.toNat 16, w8_small _ (by omega)]) _) fun a hk => ?_
    refine d0 6 hk rfl (by kernel_rfl) rfl rfl rfl rfl (fun _ => e_idxStr (c := hexA.getD (c.toNat / 16) 0) hk rfl rfl Tryd.underlying9 (by omega) (hexA_get _ (by omega)) _) fun a hk => ?_
    refine d0 7 hk rfl (by kernel_rfl) rfl rfl rfl rfl (fun _ => e_move hk rfl _) fun a hk => ?_
    refine d0 8 hk rfl (by kernel_rfl) rfl rfl rfl rfl (fun _ => e_move hk rfl _) fun a hk => ?_
    refine d0 9 hk rfl (by kernel_rfl) rfl rfl rfl rfl (fun _ => e_move hk rfl _) fun a hk => ?_
    refine d0 10 hk rfl (by kernel_rfl) rfl rfl rfl rfl (fun _ => e_idxStr (c := c) hk rfl rfl Tryd.underlying9 (by omega) (by simpa using hc) _) fun a hk => ?_
    refine d0 11 hk rfl (by kernel_rfl) rfl rfl rfl rfl (fun _ => e_rem (q := ((c.toNat % 16 : Nat) : Int)) hk rfl rfl (by decide) (i_rem c.toNat 16) _) fun a hk => ?_
    refine d0 12 hk rfl (by kernel_rfl) rfl rfl rfl rfl (fun _ => e_idxStr (c := hexA.getD (c.toNat % 16) 0) hk rfl rfl Tryd.underlying9 (by omega) (hexA_get _ (by omega)) _) fun a hk => ?_
    refine da 13 hk rfl (by kernel_rfl) rfl rfl (a_lit (cells := #[B (hexA.getD (c.toNat / 16) 0), B (hexA.getD (c.toNat % 16) 0)]) (zv := .int .u8 0) (sz := 1) (by_ := 1) hk rfl rfl Tryd.underlying22 el5 (by decide) (by decide) (lit2 _ _ _ rfl rfl) rfl fun a w bl hk GL => ?_)
    have hB := ext_trans hB GL.ext
    have hown := own_ext hown GL.ext
    have hRd : Rd w (some ⟨bl, 0, none⟩) 2 2 1 ((hex2 c).map B) := Rd.of_block GL.at_ rfl (Nat.le_refl _) (fun i hi => by
      have hi' : i < 2 := hi
      match i, hi' with
      | 0, _ => rfl
      | 1, _ => rfl)
    have hCC := Nat.le_trans hCC GL.ext.size
    clear GL
    refine da 14 hk rfl (by kernel_rfl) rfl rfl (a_app hk rfl rfl hown rfl hRd (bytes_one _) Tryd.underlying22 el5 rfl (by decide) (by omega) (by omega) hCC fun a w v hk hown' hKp => ?_)
    have hB := kept_below hKp hB hown (Nat.le_refl _) hCC
    have hCC := Nat.le_trans hCC hKp.size
    clear hown hKp hRd
    obtain ⟨ad, cc, rfl, _, _⟩ := Rd.of_own hown'
    have hown : w.ownsRow w0.heap.size 5 1 (.slice ad (m + 2) cc) (m + 2) ((hexL (s.take (j + 1))).map B) := by
      rw [hexL_take _ _ _ hc, List.map_append]; exact hown'
    clear hown'
    refine d0 15 hk rfl (by kernel_rfl) rfl rfl rfl rfl (fun _ => e_assign hk rfl _) fun a hk => ?_
    refine okFin (by kernel_rfl) (hK8 _ _ ?_)
    refine wp_region_lit ?_
    refine ls hk rfl rfl rfl (e_move hk rfl _) fun a hk => ?_
    refine ls hk rfl rfl rfl (e_add hk rfl rfl (i64 (by omega) (by omega)) _) fun a hk => ?_
    refine ls hk rfl rfl rfl (e_assign hk rfl _) fun a hk => ?_
    refine lnil (show ∃ m : Nat, m < _ ∧ _ from ⟨s.length - (j + 1), by omega, j + 1, m + 2, ad, cc, rfl, by omega, by omega, hk.sub _ ⟨rfl, rfl, rfl, rfl, trivial⟩, hB, hCC, hown⟩)
  · have hjl : j = s.length := by have := of_decide_eq_false hb; omega
    subst hjl
    rw [List.take_length] at hown
    refine wp_exit (hK4 _ _ ?_)
    refine wp_seq_k fun K9 hK9 => ?_
    obtain ⟨_, _, hv, _, hRe⟩ := Rd.of_own hown
    cases hv
    refine wp_region_lit ?_
    refine ls hk rfl rfl rfl (e_move hk rfl _) fun a hk => ?_
    refine ls hk rfl rfl rfl (e_str (bs := hexL s) hk rfl hRe Tryd.underlying22 Tryd.underlying5 Tryd.underlying9) fun a hk => ?_
    refine ls hk rfl rfl rfl (e_assign hk rfl _) fun a hk => ?_
    refine lnil (hK9 _ _ ?_)
    refine wp_ret ?_
    exact ret1 hk rfl rfl ⟨rfl, hB⟩

end Go.Proofs.YtidfbboalbchiaaDoor

namespace Go.Proofs.YtidfbboalbchiaaDoor
open Go Go.ChangeShapes Go.WideShapes Go.ChangeAt Go.RowKit

theorem Tryd.own : ownKnob Tryd.prog.godebug = none := by kernel_rfl
theorem Tryd.laidOut : laidOutB Tryd.prog = true := by kernel_rfl
def laid1 : List (String × DataW Unit) := [("diorama/hash.constants", Rows.laid_diorama_hash_constants)]
def laid2 : List (String × DataW Unit) := [("diorama/dioramaref02.constants", Rows.laid_diorama_dioramaref02_constants), ("diorama/hash.constants", Rows.laid_diorama_hash_constants)]
theorem gHash : Tryd.prog.globalNamed "diorama/hash.constants" = some 1 := by kernel_rfl
theorem gRef : Tryd.prog.globalNamed "diorama/dioramaref02.constants" = some 0 := by kernel_rfl
theorem tHash : (Tryd.prog.globals[1]?).map (·.type) = some 100 := by kernel_rfl
theorem tRef : (Tryd.prog.globals[0]?).map (·.type) = some 100 := by kernel_rfl
theorem laid_hash {H : Type} : (Rows.laid_diorama_hash_constants : DataW H) = .agg (kc.map fun x => .lit (.int .u32 (x.toNat : Int))) := by kernel_rfl
theorem laid_ref {H : Type} : (Rows.laid_diorama_dioramaref02_constants : DataW H) = .agg (kc.map fun x => .lit (.int .u32 (x.toNat : Int))) := by kernel_rfl
theorem c29' : Tryd.prog.cellsOf 29 = 1 := by kernel_rfl
theorem door_met1 (os : Os) (args : Array Value) : laidMetH Tryd.prog laid1 ((World.doorLaid Tryd.prog 19 os).forCall (fun _ _ => 0) ⟨#[], args, []⟩).memory :=
  laidMetH_of_parts3 (fuel := 8) (laidMet_of_run' 8 (by kernel_rfl) (by kernel_rfl)) (by kernel_rfl) (by kernel_rfl)
theorem door_met2 (os : Os) (args : Array Value) : laidMetH Tryd.prog laid2 ((World.doorLaid Tryd.prog 19 os).forCall (fun _ _ => 0) ⟨#[], args, []⟩).memory :=
  laidMetH_of_parts3 (fuel := 8) (laidMet_of_run' 8 (by kernel_rfl) (by kernel_rfl)) (by kernel_rfl) (by kernel_rfl)

/-- A laid table's cells. -/
theorem table_of {H : Type} {enc : TypeId × Value → H} {w : World} {g base fuel : Nat} {sp : Nat → Bool} {held : Bool} {cs : Array Value} {ps : List MemPlace} (hv : ∀ i, w.cell? ⟨g, i, none⟩ = cs[i]?)
    (hd : DataW.trod enc Tryd.prog w base sp held fuel 100 cs.toList = some (.agg (kc.map fun x => .lit (.int .u32 (x.toNat : Int))), ps)) : w.rangeAt g 0 (kc.map W) := by
  obtain ⟨xs, m, rfl, hx, _, hn, hel⟩ := DataW.trod_array Tryd.underlying100 hd
  simp only [Prod.mk.injEq, DataW.agg.injEq] at hx
  intro i u hu
  rw [List.getElem?_map] at hu
  have hi : i < 64 := by
    cases hq : kc[i]? with
    | none => rw [hq] at hu; cases hu
    | some v => exact (List.getElem?_eq_some_iff.1 hq).1
  have hk : kc[i]? = some (kc[i]'hi) := List.getElem?_eq_getElem hi
  rw [hk] at hu
  obtain rfl : W (kc[i]'hi) = u := by simpa using hu
  have h1 := hel i hi
  rw [c29', Nat.mul_one] at h1
  have h2 : (xs.map (·.1))[i]? = some (.lit (.int .u32 ((kc[i]'hi).toNat : Int))) := by rw [← hx.1, List.getElem?_map, hk]; rfl
  rw [List.getElem?_map] at h2
  cases hq : xs[i]? with
  | none => rw [hq] at h2; cases h2
  | some x =>
    rw [hq] at h1 h2
    obtain ⟨n, e1, e2, _⟩ := DataW.trod_int Tryd.underlying29 h1
    subst e2
    have hn' : n = ((kc[i]'hi).toNat : Int) := by simpa using h2
    subst hn'
    rw [Nat.zero_add, hv i]
    have h3 : ((cs.toList.drop i).take 1)[0]? = some (W (kc[i]'hi)) := by rw [e1]; rfl
    rw [List.getElem?_take, if_pos (by decide), List.getElem?_drop, Nat.add_zero] at h3
    simpa using h3

/-- What the condition gives. -/
theorem GH_of_laid1 {w : World} (h : laidMetH Tryd.prog laid1 w) : GH w := by
  rw [MakeChecks.laidMetH_plain _ _ _ (by kernel_rfl)] at h
  obtain ⟨ps, ⟨g0, t0, cs0, f0, p0, q0, hg0, ht0, hv0, hd0, _, _⟩, _, _⟩ := h
  obtain rfl := Option.some.inj (gHash.symm.trans hg0)
  obtain rfl := Option.some.inj (tHash.symm.trans ht0)
  rw [laid_hash] at hd0
  exact table_of (World.var?_cell hg0 hv0) hd0
def GR (w : World) : Prop := w.rangeAt 0 0 (kc.map W)
theorem GR.ext {w w' : World} (h : GR w) (hE : Ext w w') : GR w' := range_ext hE h
theorem GH_of_laid2 {w : World} (h : laidMetH Tryd.prog laid2 w) : GH w ∧ GR w := by
  rw [MakeChecks.laidMetH_plain _ _ _ (by kernel_rfl)] at h
  obtain ⟨ps, ⟨g0, t0, cs0, f0, p0, q0, hg0, ht0, hv0, hd0, ⟨g1, t1, cs1, f1, p1, q1, hg1, ht1, hv1, hd1, _, _⟩, _⟩, _, _⟩ := h
  obtain rfl := Option.some.inj (gRef.symm.trans hg0)
  obtain rfl := Option.some.inj (gHash.symm.trans hg1)
  obtain rfl := Option.some.inj (tRef.symm.trans ht0)
  obtain rfl := Option.some.inj (tHash.symm.trans ht1)
  rw [laid_ref] at hd0
  rw [laid_hash] at hd1
  exact ⟨table_of (World.var?_cell hg1 hv1) hd1, table_of (World.var?_cell hg0 hv0) hd0⟩
/-- A string, as it comes in. -/
theorem str_of (s : ByteArray) : (Value.string s) = Str s.data.toList := rfl
end Go.Proofs.YtidfbboalbchiaaDoor

namespace Go.Proofs.YtidfbboalbchiaaDoor
open Go Go.RowKit

theorem blk_ret {id : Nat} {Q : Exit → Act → World → Prop} {a : Act} {w : World} : Exit.inBlock id Q .ret a w = Q .ret a w := rfl
/-- The digest of parts. -/
def ofD (n : Int) (ps : List (List UInt8)) : List UInt8 := (sha (ofIn n ps)).take 16
@[simp] theorem length_ofD (n : Int) (ps : List (List UInt8)) : (ofD n ps).length = 16 := by simp [ofD, length_sha]
/-- The digest of zero bytes. -/
def zD : List UInt8 := List.replicate 16 0
@[simp] theorem length_zD : zD.length = 16 := rfl
abbrev D (l : List UInt8) : Value := .agg (l.map B).toArray
section
variable {a : Act} {w : World} {N d : Nat} {L : Fm} {ty : TypeId} {pos : String} {af : Array Edge} {g : Option (Nat × Bool)} {v : Value} {x y z : Operand} {t t' : TypeId} {K : Act → World → Prop} {dst : Option Tmp} {l : List UInt8} {bl : Nat} {cs : Array Value} {tb : TypeId} {fr : Nat × Nat}
theorem a_st44 (hk : Kn a N L) (hx : ov L x = some (.pointer (some ⟨bl, 0, none⟩))) (hy : ov L y = some (D l)) (hl : l.length = 16) (hb : w.heap[bl]? = some (.cells cs tb (0, 0))) (hc : cs.size = 16)
    (hK : ∀ a' w', Kn a' N L → Wrote w w' bl (.cells (l.map B).toArray tb (0, 0)) → K a' w') : acts Tryd.prog ⟨none, .store 44 x y, ty, pos, af, g⟩ K a w :=
  a_storeB hk hx hy (bytes_oneA _) (by rw [sz44]; simp [hl]) hb (by simp [hl, hc]) hK
theorem r_ld44 (hk : Kn a N L) (hx : ov L x = some (.pointer (some ⟨bl, 0, none⟩))) (hb : w.heap[bl]? = some (.cells (l.map B).toArray tb fr)) (hl : l.length = 16) : Ev Tryd.prog ⟨dst, .load 44 x, ty, pos, af, g⟩ a w (D l) :=
  r_loadB hk hx hb Tryd.underlying44 rfl (by rw [sz44]; simp [hl])
theorem ret44 {fn : Func} {p : Tmp} {R : Ending → World → Prop} (hk : Kn a N L) (hr : fn.results = #[.cell p 44]) (hv : lk L p = some (.pointer (some ⟨bl, 0, none⟩))) (hb : w.heap[bl]? = some (.cells (l.map B).toArray tb fr)) (hl : l.length = 16) (h : R (.returned (D l)) w) : bodyPost Tryd.prog fn R .ret a w :=
  retA hk hr hv hb Tryd.underlying44 rfl (by rw [sz44]; simp [hl]) h
theorem ret44b {fn : Func} {p u : Tmp} {R : Ending → World → Prop} (hk : Kn a N L) (hr : fn.results = #[.cell p 44, .tmp u]) (hv : lk L p = some (.pointer (some ⟨bl, 0, none⟩))) (hu : lk L u = some v) (hb : w.heap[bl]? = some (.cells (l.map B).toArray tb fr)) (hl : l.length = 16) (h : R (.returned (.tuple #[D l, v])) w) : bodyPost Tryd.prog fn R .ret a w :=
  retA1 hk hr hv hu hb Tryd.underlying44 rfl (by rw [sz44]; simp [hl]) h
/-- The digest of zero bytes, built. -/
theorem e_zero44 (hk : Kn a N L) (w : World) : Ev Tryd.prog ⟨dst, .build 44 #[], ty, pos, af, g⟩ a w (D zD) :=
  e_buildA (ps := []) (vs := []) (sz := 1) hk rfl zr44 Tryd.underlying44 sz5 (by kernel_rfl) w
end
section
variable {P : Program} {a : Act} {w : World} {N d : Nat} {L : Fm} {ty : TypeId} {pos : String} {af : Array Edge} {g : Option (Nat × Bool)} {v u : Value} {x y z : Operand} {t t' : TypeId} {K : Act → World → Prop} {dst : Option Tmp} {bl : Nat} {tb : TypeId} {fr : Nat × Nat}
theorem a_st1 (hk : Kn a N L) (hx : ov L x = some (.pointer (some ⟨bl, 0, none⟩))) (hy : ov L y = some v) (h1 : v.oneCell' = true) (hs : (P.info? t).map (·.size) = some 1) (hb : w.heap[bl]? = some (.cells #[u] tb (0, 0)))
    (hK : ∀ a' w', Kn a' N L → Wrote w w' bl (.cells #[v] tb (0, 0)) → K a' w') : acts P ⟨none, .store t x y, ty, pos, af, g⟩ K a w :=
  a_store hk hx hy h1 hs hb (by simp) fun a' w' hk' hW => hK a' w' hk' hW
theorem r_ld1 {dd : TypeDesc} (hk : Kn a N L) (hx : ov L x = some (.pointer (some ⟨bl, 0, none⟩))) (hu : P.underlying t = some dd) (hd : dd.isRow = false) (hb : w.heap[bl]? = some (.cells #[v] tb fr)) : Ev P ⟨dst, .load t x, ty, pos, af, g⟩ a w v :=
  r_load hk hx hu hd hb rfl
end
/-- A row stays when a newer block is written. -/
theorem rd_keep {w w1 : World} {ad : Option Addr} {n c sz : Nat} {xs : List Value} {b : Nat} {o : Obj} (h : Rd w ad n c sz xs) (G : Grew w w1 b o) : ∀ w2 w3 o', Rd w2 ad n c sz xs → Wrote w2 w3 b o' → Rd w3 ad n c sz xs := by
  intro w2 w3 o' h2 hW
  refine ⟨h2.1, h2.2.1, fun i u hu => ?_⟩
  obtain ⟨b1, o1, e1, c1⟩ := h.2.2 i u hu
  obtain ⟨b2, o2, e2, c2⟩ := h2.2.2 i u hu
  rw [e1] at e2
  cases e2
  have h3 : b1 < w.heap.size := World.block_lt_of_cell? w _ c1
  have := G.ge
  exact ⟨b1, o1, e1, hW.cell (by show b1 ≠ b; omega) c2⟩
theorem own_ne {w w1 : World} {base : Nat} {e : TypeId} {sz : Nat} {v : Value} {n : Nat} {xs : List Value} {b : Nat} {o : Obj} (h : w.ownsRow base e sz v n xs) (G : Grew w w1 b o) : v.ownBlock ≠ some b := fun hh => by
  have := (h.lt b hh).2
  have := G.ge
  omega
theorem rd_none {w : World} {c sz : Nat} : Rd w none 0 c sz [] := ⟨by simp, Nat.zero_le _, fun i u hu => by simp at hu⟩
theorem lit1s (v : Value) (hv : v.cells = #[v]) : ∀ z : Value, Instr.fill (fun i => some (i * 1, 1)) ((Array.range (1 * 1)).map (z.cells[· % z.cells.size]!)) [(0, v)] = some #[v] := fun z => lit1 z v hv
theorem lit2s (v u : Value) (hv : v.cells = #[v]) (hu : u.cells = #[u]) : ∀ z : Value, Instr.fill (fun i => some (i * 1, 1)) ((Array.range (2 * 1)).map (z.cells[· % z.cells.size]!)) [(0, v), (1, u)] = some #[v, u] := by
  intro z
  have hr : Array.range 2 = #[0, 1] := by decide
  have h : ∀ p q : Value, (#[p, q] : Array Value).setIfInBounds 0 v = #[v, q] := fun _ _ => rfl
  have h' : ∀ p q : Value, (#[p, q] : Array Value).setIfInBounds 1 u = #[p, u] := fun _ _ => rfl
  simp [Instr.fill, hv, hu, hr, h, h']
theorem rs_lit1 {w : World} {b : Nat} {e : TypeId} {fr : Nat × Nat} {x : List UInt8} (h : w.heap[b]? = some (.cells #[Str x] e fr)) : Rs w (some ⟨b, 0, none⟩) 1 1 [x] :=
  Rd.of_block h rfl (Nat.le_refl _) fun i hi => by
    have hi' : i < 1 := hi
    match i, hi' with
    | 0, _ => rfl
theorem rs_lit2 {w : World} {b : Nat} {e : TypeId} {fr : Nat × Nat} {x y : List UInt8} (h : w.heap[b]? = some (.cells #[Str x, Str y] e fr)) : Rs w (some ⟨b, 0, none⟩) 2 2 [x, y] :=
  Rd.of_block h rfl (Nat.le_refl _) fun i hi => by
    have hi' : i < 2 := hi
    match i, hi' with
    | 0, _ => rfl
    | 1, _ => rfl
/-- The bytes of a digest in a block. -/
theorem rd_dig {w : World} {b : Nat} {t : TypeId} {fr : Nat × Nat} {l : List UInt8} (h : w.heap[b]? = some (.cells (l.map B).toArray t fr)) (hl : l.length = 16) : Rd w (some ⟨b, 0, none⟩) 16 16 1 (l.map B) :=
  Rd.of_block h (by simp [hl]) (Nat.le_refl _) fun i hi => by rw [Nat.zero_add]; simp
theorem sub_to {w : World} {ad : Option Addr} {n c k : Nat} {xs : List Value} (h : Rd w ad n c 1 xs) (hk : k ≤ n) : Rd w (if c = 0 then ad else ad.map (·.add 0)) k c 1 (xs.take k) := by
  have hl := h.1
  refine ⟨by simp; omega, by have := h.2.1; omega, fun i u hu => ?_⟩
  have hi : i < k := by
    have := (List.getElem?_eq_some_iff.1 hu).1
    simp at this; omega
  rw [List.getElem?_take, if_pos hi] at hu
  obtain ⟨b, o, rfl, hc⟩ := h.2.2 i u hu
  refine ⟨b, o, ?_, hc⟩
  split
  · rfl
  · simp [Addr.add_lit]
theorem sub_from {w : World} {ad : Option Addr} {n c k : Nat} {xs : List Value} (h : Rd w ad n c 1 xs) (hk : k ≤ n) : Rd w (if c = k then ad else ad.map (·.add (k * 1))) (n - k) (c - k) 1 (xs.drop k) := by
  have hl := h.1
  have hn := h.2.1
  refine ⟨by simp; omega, by omega, fun i u hu => ?_⟩
  have hi : k + i < n := by
    have := (List.getElem?_eq_some_iff.1 hu).1
    simp at this; omega
  rw [List.getElem?_drop] at hu
  obtain ⟨b, o, rfl, hc⟩ := h.2.2 (k + i) u hu
  rw [if_neg (by omega)]
  exact ⟨b, o + k, by simp [Addr.add_lit], by rw [show o + k + i = o + (k + i) by omega]; exact hc⟩
theorem sub_mid {w : World} {ad : Option Addr} {n c i j : Nat} {xs : List Value} (h : Rd w ad n c 1 xs) (hij : i ≤ j) (hj : j ≤ n) : Rd w (if c = i then ad else ad.map (·.add (i * 1))) (j - i) (c - i) 1 ((xs.take j).drop i) := by
  have hl := h.1
  have hn := h.2.1
  refine ⟨by simp; omega, by omega, fun k u hu => ?_⟩
  have hi : i + k < j := by
    have := (List.getElem?_eq_some_iff.1 hu).1
    simp at this; omega
  rw [List.getElem?_drop, List.getElem?_take, if_pos hi] at hu
  obtain ⟨b, o, rfl, hc⟩ := h.2.2 (i + k) u hu
  rw [if_neg (by omega)]
  exact ⟨b, o + i, by simp [Addr.add_lit], by rw [show o + i + k = o + (i + k) by omega]; exact hc⟩
end Go.Proofs.YtidfbboalbchiaaDoor

namespace Go.Proofs.YtidfbboalbchiaaDoor

theorem log2_is {m j : Nat} (h1 : 2 ^ j ≤ m) (h2 : m < 2 ^ (j + 1)) : Nat.log2 m = j := by
  have h0 : m ≠ 0 := by have := Nat.pow_pos (n := j) (show 0 < 2 by decide); omega
  have h3 : j ≤ Nat.log2 m := (Nat.le_log2 h0).2 h1
  have h4 : Nat.log2 m < j + 1 := (Nat.log2_lt h0).2 h2
  omega
theorem log2_bounds {m : Nat} (h0 : m ≠ 0) : 2 ^ Nat.log2 m ≤ m ∧ m < 2 ^ (Nat.log2 m + 1) := ⟨Nat.log2_self_le h0, Nat.lt_log2_self⟩
theorem log2_shift {m s : Nat} (h : 2 ^ s ≤ m) : Nat.log2 m = Nat.log2 (m / 2 ^ s) + s := by
  have hp := Nat.pow_pos (n := s) (show 0 < 2 by decide)
  have h0 : m / 2 ^ s ≠ 0 := by
    have := (Nat.le_div_iff_mul_le hp (x := 1) (y := m)).2 (by omega)
    omega
  obtain ⟨h1, h2⟩ := log2_bounds h0
  apply log2_is
  · rw [Nat.pow_add]
    exact (Nat.le_div_iff_mul_le hp).1 h1
  · rw [show Nat.log2 (m / 2 ^ s) + s + 1 = (Nat.log2 (m / 2 ^ s) + 1) + s by omega, Nat.pow_add]
    exact (Nat.div_lt_iff_lt_mul hp).1 h2
/-- The greatest power of 2 that is less than a number from 2 on. -/
def hlf (n : Nat) : Nat := 2 ^ Nat.log2 (n - 1)
theorem hlf_pos (n : Nat) : 0 < hlf n := Nat.pow_pos (by decide)
theorem hlf_lt {n : Nat} (h : 2 ≤ n) : hlf n < n := by
  have := (log2_bounds (m := n - 1) (by omega)).1
  unfold hlf; omega
theorem hlf_ge {n : Nat} (h : 2 ≤ n) : n ≤ 2 * hlf n := by
  have := (log2_bounds (m := n - 1) (by omega)).2
  rw [Nat.pow_succ] at this
  unfold hlf; omega
theorem hlf_is {n j : Nat} (h1 : j = 0 ∨ 2 ^ j < n) (h2 : n ≤ 2 * 2 ^ j) : hlf n = 2 ^ j := by
  unfold hlf
  by_cases hn : n ≤ 1
  · have : j = 0 := by
      rcases h1 with h | h
      · exact h
      · have := Nat.pow_pos (n := j) (show 0 < 2 by decide); omega
    subst this
    have : n - 1 = 0 := by omega
    rw [this]; rfl
  · congr 1
    apply log2_is
    · rcases h1 with h | h
      · subst h; simp; omega
      · omega
    · rw [Nat.pow_succ]; omega
/-- Half of a tree that fits into 2^(d+1) leaves fits into 2^d. -/
theorem hlf_le {n d : Nat} (h : 2 ≤ n) (hd : n ≤ 2 ^ (d + 1)) : hlf n ≤ 2 ^ d ∧ n - hlf n ≤ 2 ^ d := by
  have h1 : Nat.log2 (n - 1) ≤ d := by
    have h0 : n - 1 ≠ 0 := by omega
    have : Nat.log2 (n - 1) < d + 1 := (Nat.log2_lt h0).2 (by omega)
    omega
  have h2 : hlf n ≤ 2 ^ d := Nat.pow_le_pow_right (by decide) h1
  have := hlf_ge h
  exact ⟨h2, by omega⟩

/-- A leaf's root, two trees' root. -/
def leafS (s : List UInt8) : List UInt8 := ofD 1 [s]
def nodeS (a b : List UInt8) : List UInt8 := ofD 2 [a, b]
@[simp] theorem length_leafS (s : List UInt8) : (leafS s).length = 16 := length_ofD _ _
@[simp] theorem length_nodeS (a b : List UInt8) : (nodeS a b).length = 16 := length_ofD _ _
/-- The root of a list of leaves. -/
def rootS (ls : List (List UInt8)) : List UInt8 :=
  if _ : ls.length = 0 then ofD 2 []
  else if _ : ls.length = 1 then leafS (ls.getD 0 [])
  else nodeS (rootS (ls.take (hlf ls.length))) (rootS (ls.drop (hlf ls.length)))
termination_by ls.length
decreasing_by
  · have := hlf_lt (n := ls.length) (by omega); simp; omega
  · have := hlf_pos ls.length; simp; omega
@[simp] theorem length_rootS (ls : List (List UInt8)) : (rootS ls).length = 16 := by
  rw [rootS]; split
  · simp
  · split <;> simp
theorem rootS_nil : rootS [] = ofD 2 [] := by rw [rootS]; simp
theorem rootS_one (s : List UInt8) : rootS [s] = leafS s := by rw [rootS]; simp
theorem rootS_more {ls : List (List UInt8)} (h : 2 ≤ ls.length) : rootS ls = nodeS (rootS (ls.take (hlf ls.length))) (rootS (ls.drop (hlf ls.length))) := by
  rw [rootS, dif_neg (by omega), dif_neg (by omega)]
/-- The leaves from a place to another. -/
def cut (ls : List (List UInt8)) (a b : Nat) : List (List UInt8) := (ls.take b).drop a
theorem length_cut (ls : List (List UInt8)) (a b : Nat) (h : b ≤ ls.length) : (cut ls a b).length = b - a := by simp [cut]; omega
theorem cut_all (ls : List (List UInt8)) : cut ls 0 ls.length = ls := by simp [cut]
theorem cut_take (ls : List (List UInt8)) (a b k : Nat) (hk : a + k ≤ b) : (cut ls a b).take k = cut ls a (a + k) := by
  unfold cut
  rw [List.take_drop, List.take_take, Nat.min_eq_left (by omega)]
theorem cut_drop (ls : List (List UInt8)) (a b k : Nat) : (cut ls a b).drop k = cut ls (a + k) b := by
  unfold cut
  rw [List.drop_drop]
theorem cut_one (ls : List (List UInt8)) (a : Nat) (h : a < ls.length) : cut ls a (a + 1) = [ls.getD a []] := by
  apply List.ext_getElem
  · rw [length_cut _ _ _ (by omega)]; simp
  · intro i h1 h2
    have hi : i = 0 := by simp at h2; omega
    subst hi
    simp [cut, h]
/-- The root of an interval of leaves. -/
def rootI (ls : List (List UInt8)) (a b : Nat) : List UInt8 := rootS (cut ls a b)
@[simp] theorem length_rootI (ls : List (List UInt8)) (a b : Nat) : (rootI ls a b).length = 16 := length_rootS _
theorem rootI_one (ls : List (List UInt8)) (a : Nat) (h : a < ls.length) : rootI ls a (a + 1) = leafS (ls.getD a []) := by rw [rootI, cut_one ls a h, rootS_one]
theorem rootI_more (ls : List (List UInt8)) (a b : Nat) (h : 2 ≤ b - a) (hb : b ≤ ls.length) : rootI ls a b = nodeS (rootI ls a (a + hlf (b - a))) (rootI ls (a + hlf (b - a)) b) := by
  have h1 := hlf_lt h
  unfold rootI
  rw [rootS_more (by rw [length_cut _ _ _ hb]; exact h), length_cut _ _ _ hb, cut_take _ _ _ _ (by omega), cut_drop]

/-- The nodes of a walk that stop at a test: left to right. -/
def stopsS (st : Nat → Nat → Bool) (a b : Nat) : List (Nat × Nat) :=
  if st a b then [(a, b)] else if _ : 2 ≤ b - a then stopsS st a (a + hlf (b - a)) ++ stopsS st (a + hlf (b - a)) b else []
termination_by b - a
decreasing_by
  · have := hlf_lt (n := b - a) ‹_›; omega
  · have := hlf_pos (b - a); omega
theorem stops_stop {st : Nat → Nat → Bool} {a b : Nat} (h : st a b = true) : stopsS st a b = [(a, b)] := by rw [stopsS, if_pos h]
theorem stops_one {st : Nat → Nat → Bool} {a b : Nat} (h : st a b = false) (h1 : b - a ≤ 1) : stopsS st a b = [] := by
  rw [stopsS, if_neg (by simp [h]), dif_neg (by omega)]
theorem stops_more {st : Nat → Nat → Bool} {a b : Nat} (h : st a b = false) (h1 : 2 ≤ b - a) : stopsS st a b = stopsS st a (a + hlf (b - a)) ++ stopsS st (a + hlf (b - a)) b := by
  rw [stopsS, if_neg (by simp [h]), dif_pos h1]
/-- Induction over the walk's nodes. -/
theorem walk_ind {p : Nat → Nat → Prop} (h : ∀ a b, a < b → (2 ≤ b - a → p a (a + hlf (b - a)) ∧ p (a + hlf (b - a)) b) → p a b) : ∀ a b, a < b → p a b := by
  have key : ∀ n a b, b - a = n → a < b → p a b := by
    intro n
    induction n using Nat.strongRecOn with
    | _ n ih =>
      intro a b hn hab
      refine h a b hab fun h2 => ?_
      have h3 := hlf_lt h2
      have h4 := hlf_pos (b - a)
      exact ⟨ih _ (by omega) _ _ rfl (by omega), ih _ (by omega) _ _ rfl (by omega)⟩
  exact fun a b => key _ a b rfl
/-- Outside an interval; not across a place. -/
def outI (f t a b : Nat) : Bool := decide (b ≤ f) || decide (t ≤ a)
def farB (n a b : Nat) : Bool := decide (b ≤ n) || decide (n ≤ a)
def restS (f t a b : Nat) : List (Nat × Nat) := stopsS (outI f t) a b
def stepsS (n a b : Nat) : List (Nat × Nat) := stopsS (farB n) a b

/-- What a walk computes that takes a digest at each stop, leaves elsewhere: the digest, and how many were taken. -/
def chkS (st : Nat → Nat → Bool) (lf : Nat → List UInt8) (l : List (List UInt8)) (a b c : Nat) : List UInt8 × Nat :=
  if st a b then (l.getD c zD, c + 1)
  else if _ : 2 ≤ b - a then
    let x := chkS st lf l a (a + hlf (b - a)) c
    let y := chkS st lf l (a + hlf (b - a)) b x.2
    (nodeS x.1 y.1, y.2)
  else (lf a, c)
termination_by b - a
decreasing_by
  · have := hlf_lt (n := b - a) ‹_›; omega
  · have := hlf_pos (b - a); omega
theorem chk_stop {st : Nat → Nat → Bool} {lf : Nat → List UInt8} {l : List (List UInt8)} {a b c : Nat} (h : st a b = true) : chkS st lf l a b c = (l.getD c zD, c + 1) := by rw [chkS, if_pos h]
theorem chk_one {st : Nat → Nat → Bool} {lf : Nat → List UInt8} {l : List (List UInt8)} {a b c : Nat} (h : st a b = false) (h1 : b - a ≤ 1) : chkS st lf l a b c = (lf a, c) := by
  rw [chkS, if_neg (by simp [h]), dif_neg (by omega)]
theorem chk_more {st : Nat → Nat → Bool} {lf : Nat → List UInt8} {l : List (List UInt8)} {a b c : Nat} (h : st a b = false) (h1 : 2 ≤ b - a) :
    chkS st lf l a b c = (nodeS (chkS st lf l a (a + hlf (b - a)) c).1 (chkS st lf l (a + hlf (b - a)) b (chkS st lf l a (a + hlf (b - a)) c).2).1, (chkS st lf l (a + hlf (b - a)) b (chkS st lf l a (a + hlf (b - a)) c).2).2) := by
  rw [chkS, if_neg (by simp [h]), dif_pos h1]
/-- It takes one digest for each stop. -/
theorem chk_count (st : Nat → Nat → Bool) (lf : Nat → List UInt8) (l : List (List UInt8)) : ∀ a b, a < b → ∀ c, (chkS st lf l a b c).2 = c + (stopsS st a b).length := by
  apply walk_ind
  intro a b hab ih c
  cases hs : st a b with
  | true => rw [chk_stop hs, stops_stop hs]; rfl
  | false =>
    by_cases h2 : 2 ≤ b - a
    · obtain ⟨i1, i2⟩ := ih h2
      rw [chk_more hs h2, stops_more hs h2, List.length_append, i2, i1]
      omega
    · rw [chk_one hs (by omega), stops_one hs (by omega)]; rfl
/-- The stops lie one behind the other. -/
theorem stops_in (st : Nat → Nat → Bool) : ∀ a b, a < b → ∀ p ∈ stopsS st a b, a ≤ p.1 ∧ p.1 < p.2 ∧ p.2 ≤ b ∧ st p.1 p.2 = true := by
  apply walk_ind
  intro a b hab ih p hp
  cases hs : st a b with
  | true =>
    rw [stops_stop hs] at hp
    obtain rfl := List.mem_singleton.1 hp
    exact ⟨Nat.le_refl _, hab, Nat.le_refl _, hs⟩
  | false =>
    by_cases h2 : 2 ≤ b - a
    · obtain ⟨i1, i2⟩ := ih h2
      have h3 := hlf_lt h2
      rw [stops_more hs h2] at hp
      rcases List.mem_append.1 hp with h | h
      · have := i1 p h; exact ⟨by omega, by omega, by omega, this.2.2.2⟩
      · have := i2 p h; exact ⟨by omega, by omega, by omega, this.2.2.2⟩
    · rw [stops_one hs (by omega)] at hp; cases hp
/-- Where a stop is in a list. -/
def findS (R : List (Nat × Nat)) (p : Nat × Nat) : Option Nat := R.findIdx? (fun q => decide (q = p))
theorem find_none {R : List (Nat × Nat)} {p : Nat × Nat} (h : p ∉ R) : findS R p = none := by
  unfold findS
  rw [List.findIdx?_eq_none_iff]
  intro q hq
  simp
  rintro rfl
  exact h hq
theorem find_at {P Q : List (Nat × Nat)} {p : Nat × Nat} (h : p ∉ P) : findS (P ++ p :: Q) p = some P.length := by
  unfold findS
  rw [List.findIdx?_append]
  have : P.findIdx? (fun q => decide (q = p)) = none := find_none h
  rw [this]
  simp [List.findIdx?_cons]
/-- A stop is found at its place; what is no stop is not found. -/
structure At (st : Nat → Nat → Bool) (R P Q : List (Nat × Nat)) (a b : Nat) : Prop where
  eq : R = P ++ stopsS st a b ++ Q
  lo : ∀ p ∈ P, p.1 < a
  hi : ∀ p ∈ Q, b ≤ p.1
  ok : ∀ p ∈ P ++ Q, st p.1 p.2 = true
theorem At.all {st : Nat → Nat → Bool} {a b : Nat} : At st (stopsS st a b) [] [] a b := ⟨by simp, by simp, by simp, by simp⟩
theorem At.stop {st : Nat → Nat → Bool} {R P Q : List (Nat × Nat)} {a b : Nat} (h : At st R P Q a b) (hs : st a b = true) : findS R (a, b) = some P.length := by
  rw [h.eq, stops_stop hs, List.append_assoc]
  exact find_at fun hm => by have := h.lo _ hm; simp at this
theorem At.go {st : Nat → Nat → Bool} {R P Q : List (Nat × Nat)} {a b : Nat} (hab : a < b) (h : At st R P Q a b) (hs : st a b = false) : findS R (a, b) = none := by
  rw [h.eq]
  apply find_none
  intro hm
  rcases List.mem_append.1 hm with hm | hm
  · rcases List.mem_append.1 hm with hm | hm
    · have := h.ok (a, b) (List.mem_append.2 (.inl hm)); simp [hs] at this
    · have := (stops_in st a b hab _ hm).2.2.2; simp [hs] at this
  · have := h.ok (a, b) (List.mem_append.2 (.inr hm)); simp [hs] at this
theorem At.left {st : Nat → Nat → Bool} {R P Q : List (Nat × Nat)} {a b : Nat} (h : At st R P Q a b) (hs : st a b = false) (h2 : 2 ≤ b - a) : At st R P (stopsS st (a + hlf (b - a)) b ++ Q) a (a + hlf (b - a)) := by
  have h3 := hlf_lt h2
  have h4 := hlf_pos (b - a)
  refine ⟨by rw [h.eq, stops_more hs h2]; simp only [List.append_assoc], h.lo, fun p hp => ?_, fun p hp => ?_⟩
  · rcases List.mem_append.1 hp with hm | hm
    · exact (stops_in st _ _ (by omega) p hm).1
    · have := h.hi p hm; omega
  · rcases List.mem_append.1 hp with hm | hm
    · exact h.ok p (List.mem_append.2 (.inl hm))
    · rcases List.mem_append.1 hm with hm | hm
      · exact (stops_in st _ _ (by omega) p hm).2.2.2
      · exact h.ok p (List.mem_append.2 (.inr hm))
theorem At.right {st : Nat → Nat → Bool} {R P Q : List (Nat × Nat)} {a b : Nat} (h : At st R P Q a b) (hs : st a b = false) (h2 : 2 ≤ b - a) : At st R (P ++ stopsS st a (a + hlf (b - a))) Q (a + hlf (b - a)) b := by
  have h3 := hlf_lt h2
  have h4 := hlf_pos (b - a)
  refine ⟨by rw [h.eq, stops_more hs h2]; simp only [List.append_assoc], fun p hp => ?_, h.hi, fun p hp => ?_⟩
  · rcases List.mem_append.1 hp with hm | hm
    · have := h.lo p hm; omega
    · have := stops_in st _ _ (by omega) p hm; omega
  · rcases List.mem_append.1 hp with hm | hm
    · rcases List.mem_append.1 hm with hm | hm
      · exact h.ok p (List.mem_append.2 (.inl hm))
      · exact (stops_in st _ _ (by omega) p hm).2.2.2
    · exact h.ok p (List.mem_append.2 (.inr hm))
theorem At.len {st : Nat → Nat → Bool} {R P Q : List (Nat × Nat)} {a b : Nat} (h : At st R P Q a b) (hs : st a b = true) : P.length < R.length := by
  rw [h.eq, stops_stop hs]; simp
/-- The root of the leaves before the place n, as it is computed out of the steps. -/
def oldC (st : Nat → Nat → Bool) (l : List (List UInt8)) (n a b c : Nat) : List UInt8 :=
  if st a b then l.getD c zD
  else if _ : 2 ≤ b - a then
    if n ≤ a + hlf (b - a) then oldC st l n a (a + hlf (b - a)) c
    else nodeS (chkS st (fun _ => zD) l a (a + hlf (b - a)) c).1 (oldC st l n (a + hlf (b - a)) b (chkS st (fun _ => zD) l a (a + hlf (b - a)) c).2)
  else zD
termination_by b - a
decreasing_by
  · have := hlf_lt (n := b - a) ‹_›; omega
  · have := hlf_pos (b - a); omega
theorem old_stop {st : Nat → Nat → Bool} {l : List (List UInt8)} {n a b c : Nat} (h : st a b = true) : oldC st l n a b c = l.getD c zD := by rw [oldC, if_pos h]
theorem old_left {st : Nat → Nat → Bool} {l : List (List UInt8)} {n a b c : Nat} (h : st a b = false) (h2 : 2 ≤ b - a) (hn : n ≤ a + hlf (b - a)) : oldC st l n a b c = oldC st l n a (a + hlf (b - a)) c := by
  rw [oldC, if_neg (by simp [h]), dif_pos h2, if_pos hn]
theorem old_both {st : Nat → Nat → Bool} {l : List (List UInt8)} {n a b c : Nat} (h : st a b = false) (h2 : 2 ≤ b - a) (hn : ¬ n ≤ a + hlf (b - a)) : oldC st l n a b c = nodeS (chkS st (fun _ => zD) l a (a + hlf (b - a)) c).1 (oldC st l n (a + hlf (b - a)) b (chkS st (fun _ => zD) l a (a + hlf (b - a)) c).2) := by
  rw [oldC, if_neg (by simp [h]), dif_pos h2, if_neg hn]
theorem chk_len (st : Nat → Nat → Bool) (lf : Nat → List UInt8) (hlf : ∀ a, (lf a).length = 16) (l : List (List UInt8)) (hl : ∀ d ∈ l, d.length = 16) : ∀ a b, a < b → ∀ c, (chkS st lf l a b c).1.length = 16 := by
  apply walk_ind
  intro a b hab ih c
  cases hs : st a b with
  | true =>
    rw [chk_stop hs]
    by_cases hc : c < l.length
    · have : l.getD c zD = l[c] := by simp [hc]
      simp only [this]; exact hl _ (List.getElem_mem hc)
    · simp only [List.getD_eq_getElem?_getD, List.getElem?_eq_none (Nat.le_of_not_lt hc)]; rfl
  | false =>
    by_cases h2 : 2 ≤ b - a
    · rw [chk_more hs h2]; simp
    · rw [chk_one hs (by omega)]; exact hlf a
theorem getD16 {l : List (List UInt8)} (hl : ∀ d ∈ l, d.length = 16) (c : Nat) : (l.getD c zD).length = 16 := by
  by_cases hc : c < l.length
  · have : l.getD c zD = l[c] := by simp [hc]
    rw [this]; exact hl _ (List.getElem_mem hc)
  · simp only [List.getD_eq_getElem?_getD, List.getElem?_eq_none (Nat.le_of_not_lt hc)]; rfl
theorem old_len (l : List (List UInt8)) (n : Nat) (hl : ∀ d ∈ l, d.length = 16) (st : Nat → Nat → Bool) : ∀ a b, a < b → ∀ c, (oldC st l n a b c).length = 16 := by
  apply walk_ind
  intro a b hab ih c
  cases hs : st a b with
  | true => rw [old_stop hs]; exact getD16 hl c
  | false =>
    by_cases h2 : 2 ≤ b - a
    · by_cases hn : n ≤ a + hlf (b - a)
      · rw [old_left hs h2 hn]; exact (ih h2).1 c
      · rw [old_both hs h2 hn]; simp
    · rw [oldC, if_neg (by simp [hs]), dif_neg h2]; rfl
/-- What is taken at the stops does not depend on leaves, where each single place stops. -/
theorem chk_lf {st : Nat → Nat → Bool} (lf lf' : Nat → List UInt8) (l : List (List UInt8)) (h1 : ∀ a, st a (a + 1) = false → lf a = lf' a) : ∀ a b, a < b → ∀ c, chkS st lf l a b c = chkS st lf' l a b c := by
  apply walk_ind
  intro a b hab ih c
  cases hs : st a b with
  | true => rw [chk_stop hs, chk_stop hs]
  | false =>
    by_cases h2 : 2 ≤ b - a
    · rw [chk_more hs h2, chk_more hs h2, (ih h2).1, (ih h2).2]
    · rw [chk_one hs (by omega), chk_one hs (by omega), h1 a (by rw [show a + 1 = b by omega]; exact hs)]
end Go.Proofs.YtidfbboalbchiaaDoor

namespace Go.Proofs.YtidfbboalbchiaaDoor

/-- The number, computed first. -/
def fc {α : Type} (n : Nat) (k : Nat → α) : α := match n with
  | 0 => k 0
  | m + 1 => k (m + 1)
theorem fc_eq {α : Type} (n : Nat) (k : Nat → α) : fc n k = k n := by cases n <;> rfl
def rN (x n : Nat) : Nat := (x <<< (32 - n)) % 4294967296 ||| (x >>> n)
def sg0N (x : Nat) : Nat := rN x 7 ^^^ rN x 18 ^^^ (x >>> 3)
def sg1N (x : Nat) : Nat := rN x 17 ^^^ rN x 19 ^^^ (x >>> 10)
def wnN (w0 w1 w9 w14 : Nat) : Nat := (w0 + sg0N w1 + w9 + sg1N w14) % 4294967296
def xN (k w e f g h : Nat) : Nat := (h + (rN e 6 ^^^ rN e 11 ^^^ rN e 25) + ((e &&& f) ^^^ ((4294967295 - e) &&& g)) + k + w) % 4294967296
def yN (a b c : Nat) : Nat := ((rN a 2 ^^^ rN a 13 ^^^ rN a 22) + ((a &&& b) ^^^ (a &&& c) ^^^ (b &&& c))) % 4294967296
def kcN : List Nat := kc.map (·.toNat)
def goN {α : Type} : List Nat → (Nat → Nat → Nat → Nat → Nat → Nat → Nat → Nat → Nat → Nat → Nat → Nat → Nat → Nat → Nat → Nat → Nat → Nat → Nat → Nat → Nat → Nat → Nat → Nat → (Nat → Nat → Nat → Nat → Nat → Nat → Nat → Nat → α) → α)
  | [], _, _, _, _, _, _, _, _, _, _, _, _, _, _, _, _, a, b, c, d, e, f, g, h, k => k a b c d e f g h
  | kk :: ks, w0, w1, w2, w3, w4, w5, w6, w7, w8, w9, w10, w11, w12, w13, w14, w15, a, b, c, d, e, f, g, h, k => fc (xN kk w0 e f g h) fun x => fc ((x + yN a b c) % 4294967296) fun a' => fc ((d + x) % 4294967296) fun e' => fc (wnN w0 w1 w9 w14) fun w16 =>
    goN ks w1 w2 w3 w4 w5 w6 w7 w8 w9 w10 w11 w12 w13 w14 w15 w16 a' a b c e' e f g k

/-- A block's words, one after another. -/
def wdt (b : List UInt8) (t : Nat) : UInt32 := (sched b (t + 1)).getD t 0
theorem sched_get (b : List UInt8) (n : Nat) : ∀ t, t < n → (sched b n).getD t 0 = wdt b t := by
  induction n with
  | zero => intro t h; omega
  | succ n ih =>
    intro t h
    by_cases ht : t = n
    · subst ht; rfl
    · rw [← ih t (by omega)]
      simp only [sched, List.getD_eq_getElem?_getD]
      rw [List.getElem?_append_left (by rw [length_sched]; omega)]
theorem wdt_lo (b : List UInt8) (t : Nat) (h : t < 16) : wdt b t = word ((b.drop (4 * t)).take 4) := by
  unfold wdt
  rw [sched, if_pos h, List.getD_eq_getElem?_getD, List.getElem?_append_right (by rw [length_sched]; omega), length_sched, Nat.sub_self]
  rfl
theorem wdt_hi (b : List UInt8) (t : Nat) : wdt b (t + 16) = wdt b t + sg0 (wdt b (t + 1)) + wdt b (t + 9) + sg1 (wdt b (t + 14)) := by
  show (sched b (t + 16 + 1)).getD (t + 16) 0 = _
  rw [sched, if_neg (by omega), List.getD_eq_getElem?_getD, List.getElem?_append_right (by rw [length_sched]; omega), length_sched, Nat.sub_self]
  show wnext _ _ = _
  unfold wnext
  rw [show t + 16 - 16 = t by omega, show t + 16 - 15 = t + 1 by omega, show t + 16 - 7 = t + 9 by omega, show t + 16 - 2 = t + 14 by omega]
  rw [sched_get _ _ _ (by omega), sched_get _ _ _ (by omega), sched_get _ _ _ (by omega), sched_get _ _ _ (by omega)]
theorem pw32 : (2 : Nat) ^ 32 = 4294967296 := by decide
theorem rN_eq (x : UInt32) (n : Nat) (h0 : 0 < n) (h : n < 32) : rN x.toNat n = (rotr x n).toNat := by
  unfold rN rotr
  rw [UInt32.toNat_or, UInt32.toNat_shiftLeft, UInt32.toNat_shiftRight]
  have e1 : (UInt32.ofNat (32 - n)).toNat % 32 = 32 - n := by simp; omega
  have e2 : (UInt32.ofNat n).toNat % 32 = n := by simp; omega
  rw [e1, e2]
theorem shr_eq (x : UInt32) (n : Nat) (h : n < 32) : x.toNat >>> n = (x >>> UInt32.ofNat n).toNat := by
  rw [UInt32.toNat_shiftRight]
  have e2 : (UInt32.ofNat n).toNat % 32 = n := by simp; omega
  rw [e2]
theorem sg0N_eq (x : UInt32) : sg0N x.toNat = (sg0 x).toNat := by
  unfold sg0N sg0
  rw [rN_eq _ _ (by decide) (by decide), rN_eq _ _ (by decide) (by decide), shr_eq _ _ (by decide), UInt32.toNat_xor, UInt32.toNat_xor]
theorem sg1N_eq (x : UInt32) : sg1N x.toNat = (sg1 x).toNat := by
  unfold sg1N sg1
  rw [rN_eq _ _ (by decide) (by decide), rN_eq _ _ (by decide) (by decide), shr_eq _ _ (by decide), UInt32.toNat_xor, UInt32.toNat_xor]
theorem wnN_eq (b : List UInt8) (t : Nat) : wnN (wdt b t).toNat (wdt b (t + 1)).toNat (wdt b (t + 9)).toNat (wdt b (t + 14)).toNat = (wdt b (t + 16)).toNat := by
  rw [wdt_hi]
  unfold wnN
  rw [sg0N_eq, sg1N_eq, UInt32.toNat_add, UInt32.toNat_add, UInt32.toNat_add, pw32]
  omega
theorem xN_eq (k w : UInt32) (s : S8) : xN k.toNat w.toNat s.e.toNat s.f.toNat s.g.toNat s.h.toNat = (xOf k w s).toNat := by
  unfold xN xOf
  rw [rN_eq _ _ (by decide) (by decide), rN_eq _ _ (by decide) (by decide), rN_eq _ _ (by decide) (by decide)]
  have hn : 4294967295 - s.e.toNat = (~~~s.e).toNat := by rw [UInt32.toNat_not]; rfl
  rw [hn]
  simp only [UInt32.toNat_add, UInt32.toNat_xor, UInt32.toNat_and, pw32]
  omega
theorem yN_eq (s : S8) : yN s.a.toNat s.b.toNat s.c.toNat = (yOf' s).toNat := by
  unfold yN yOf'
  rw [rN_eq _ _ (by decide) (by decide), rN_eq _ _ (by decide) (by decide), rN_eq _ _ (by decide) (by decide)]
  simp only [UInt32.toNat_add, UInt32.toNat_xor, UInt32.toNat_and, pw32]
/-- A state, given as numbers. -/
def S8.nat {α : Type} (s : S8) (k : Nat → Nat → Nat → Nat → Nat → Nat → Nat → Nat → α) : α := k s.a.toNat s.b.toNat s.c.toNat s.d.toNat s.e.toNat s.f.toNat s.g.toNat s.h.toNat

theorem goN_eq {α : Type} (bk : List UInt8) (s : S8) (k : Nat → Nat → Nat → Nat → Nat → Nat → Nat → Nat → α) : ∀ (ks : List Nat) (t : Nat), ks = kcN.drop t → t + ks.length = 64 →
    (rnds (sched bk 64) s t).nat (fun a b c d e f g h => goN ks (wdt bk t).toNat (wdt bk (t + 1)).toNat (wdt bk (t + 2)).toNat (wdt bk (t + 3)).toNat (wdt bk (t + 4)).toNat (wdt bk (t + 5)).toNat (wdt bk (t + 6)).toNat (wdt bk (t + 7)).toNat (wdt bk (t + 8)).toNat (wdt bk (t + 9)).toNat (wdt bk (t + 10)).toNat (wdt bk (t + 11)).toNat (wdt bk (t + 12)).toNat (wdt bk (t + 13)).toNat (wdt bk (t + 14)).toNat (wdt bk (t + 15)).toNat a b c d e f g h k) = (rnds (sched bk 64) s 64).nat k := by
  intro ks
  induction ks with
  | nil =>
    intro t _ hl
    simp at hl
    subst hl
    rfl
  | cons kk r ih =>
    intro t hd hl
    have hlt : t < 64 := by simp at hl; omega
    have hkk : kk = (kc.getD t 0).toNat := by
      have h1 : (kcN.drop t)[0]? = some kk := by rw [← hd]; rfl
      rw [List.getElem?_drop, Nat.add_zero] at h1
      unfold kcN at h1
      rw [List.getElem?_map] at h1
      rw [List.getD_eq_getElem?_getD]
      cases hq : kc[t]? with
      | none => rw [hq] at h1; cases h1
      | some v => rw [hq] at h1; simpa using h1.symm
    rw [← ih (t + 1) (by rw [← List.drop_drop, ← hd]; rfl) (by simp at hl; omega)]
    rw [rnds, sched_get _ _ _ hlt]
    show goN (kk :: r) (wdt bk t).toNat (wdt bk (t + 1)).toNat (wdt bk (t + 2)).toNat (wdt bk (t + 3)).toNat (wdt bk (t + 4)).toNat (wdt bk (t + 5)).toNat (wdt bk (t + 6)).toNat (wdt bk (t + 7)).toNat (wdt bk (t + 8)).toNat (wdt bk (t + 9)).toNat (wdt bk (t + 10)).toNat (wdt bk (t + 11)).toNat (wdt bk (t + 12)).toNat (wdt bk (t + 13)).toNat (wdt bk (t + 14)).toNat (wdt bk (t + 15)).toNat (rnds (sched bk 64) s t).a.toNat (rnds (sched bk 64) s t).b.toNat (rnds (sched bk 64) s t).c.toNat (rnds (sched bk 64) s t).d.toNat (rnds (sched bk 64) s t).e.toNat (rnds (sched bk 64) s t).f.toNat (rnds (sched bk 64) s t).g.toNat (rnds (sched bk 64) s t).h.toNat k = _
    rw [goN, fc_eq, fc_eq, fc_eq, fc_eq, hkk, xN_eq, yN_eq, wnN_eq]
    rw [← pw32, ← UInt32.toNat_add, ← UInt32.toNat_add]
    rfl

/-- Four bytes as a word. -/
def tk4 {α : Type} (l : List Nat) (k : Nat → List Nat → α) : α := match l with
  | p :: q :: r :: s :: t => fc (p * 16777216 + q * 65536 + r * 256 + s) fun w => k w t
  | _ => k 0 []
theorem word4 (p q r s : UInt8) : (word [p, q, r, s]).toNat = p.toNat * 16777216 + q.toNat * 65536 + r.toNat * 256 + s.toNat := by
  have hb : ∀ x : UInt8, x.toNat < 256 := fun x => x.toNat_lt
  have h1 : ∀ (a : UInt32) (x : UInt8), a.toNat < 16777216 → ((a <<< UInt32.ofNat 8) ||| x.toUInt32).toNat = a.toNat * 256 + x.toNat := by
    intro a x ha
    rw [UInt32.toNat_or, UInt32.toNat_shiftLeft, show (UInt32.ofNat 8).toNat % 32 = 8 from rfl, UInt8.toNat_toUInt32, Nat.mod_eq_of_lt (by rw [Nat.shiftLeft_eq]; omega), ← Nat.shiftLeft_add_eq_or_of_lt (hb x), Nat.shiftLeft_eq]
  have hp := hb p; have hq := hb q; have hr := hb r; have hs := hb s
  unfold word
  simp only [List.foldl]
  have e0 : ((0 : UInt32)).toNat = 0 := rfl
  have e1 := h1 0 p (by rw [e0]; omega)
  rw [e0] at e1
  have e2 := h1 _ q (by rw [e1]; omega)
  have e3 := h1 _ r (by rw [e2, e1]; omega)
  have e4 := h1 _ s (by rw [e3, e2, e1]; omega)
  rw [e4, e3, e2, e1]
  omega
def nl (m : List UInt8) : List Nat := m.map (·.toNat)
theorem tk4_eq {α : Type} (m : List UInt8) (k : Nat → List Nat → α) (h : 4 ≤ m.length) : tk4 (nl m) k = k (word (m.take 4)).toNat (nl (m.drop 4)) := by
  match m, h with
  | p :: q :: r :: s :: t, _ =>
    show fc (p.toNat * 16777216 + q.toNat * 65536 + r.toNat * 256 + s.toNat) (fun w => k w (nl t)) = _
    rw [fc_eq]
    show _ = k (word [p, q, r, s]).toNat (nl t)
    rw [word4]

def tk64 {α : Type} (l0 : List Nat) (k : Nat → Nat → Nat → Nat → Nat → Nat → Nat → Nat → Nat → Nat → Nat → Nat → Nat → Nat → Nat → Nat → List Nat → α) : α := tk4 l0 fun w0 l1 => tk4 l1 fun w1 l2 => tk4 l2 fun w2 l3 => tk4 l3 fun w3 l4 => tk4 l4 fun w4 l5 => tk4 l5 fun w5 l6 => tk4 l6 fun w6 l7 => tk4 l7 fun w7 l8 => tk4 l8 fun w8 l9 => tk4 l9 fun w9 l10 => tk4 l10 fun w10 l11 => tk4 l11 fun w11 l12 => tk4 l12 fun w12 l13 => tk4 l13 fun w13 l14 => tk4 l14 fun w14 l15 => tk4 l15 fun w15 l16 => k w0 w1 w2 w3 w4 w5 w6 w7 w8 w9 w10 w11 w12 w13 w14 w15 l16
theorem tk64_eq {α : Type} (m : List UInt8) (k : Nat → Nat → Nat → Nat → Nat → Nat → Nat → Nat → Nat → Nat → Nat → Nat → Nat → Nat → Nat → Nat → List Nat → α) (h : 64 ≤ m.length) : tk64 (nl m) k = k (wdt (m.take 64) 0).toNat (wdt (m.take 64) 1).toNat (wdt (m.take 64) 2).toNat (wdt (m.take 64) 3).toNat (wdt (m.take 64) 4).toNat (wdt (m.take 64) 5).toNat (wdt (m.take 64) 6).toNat (wdt (m.take 64) 7).toNat (wdt (m.take 64) 8).toNat (wdt (m.take 64) 9).toNat (wdt (m.take 64) 10).toNat (wdt (m.take 64) 11).toNat (wdt (m.take 64) 12).toNat (wdt (m.take 64) 13).toNat (wdt (m.take 64) 14).toNat (wdt (m.take 64) 15).toNat (nl (m.drop 64)) := by
  unfold tk64
  rw [tk4_eq _ _ (by first | omega | (simp only [List.length_drop]; omega))]
  rw [tk4_eq _ _ (by first | omega | (simp only [List.length_drop]; omega))]
  rw [tk4_eq _ _ (by first | omega | (simp only [List.length_drop]; omega))]
  rw [tk4_eq _ _ (by first | omega | (simp only [List.length_drop]; omega))]
  rw [tk4_eq _ _ (by first | omega | (simp only [List.length_drop]; omega))]
  rw [tk4_eq _ _ (by first | omega | (simp only [List.length_drop]; omega))]
  rw [tk4_eq _ _ (by first | omega | (simp only [List.length_drop]; omega))]
  rw [tk4_eq _ _ (by first | omega | (simp only [List.length_drop]; omega))]
  rw [tk4_eq _ _ (by first | omega | (simp only [List.length_drop]; omega))]
  rw [tk4_eq _ _ (by first | omega | (simp only [List.length_drop]; omega))]
  rw [tk4_eq _ _ (by first | omega | (simp only [List.length_drop]; omega))]
  rw [tk4_eq _ _ (by first | omega | (simp only [List.length_drop]; omega))]
  rw [tk4_eq _ _ (by first | omega | (simp only [List.length_drop]; omega))]
  rw [tk4_eq _ _ (by first | omega | (simp only [List.length_drop]; omega))]
  rw [tk4_eq _ _ (by first | omega | (simp only [List.length_drop]; omega))]
  rw [tk4_eq _ _ (by first | omega | (simp only [List.length_drop]; omega))]
  simp only [List.drop_drop, Nat.reduceAdd]
  have hw : ∀ t, t < 16 → wdt (m.take 64) t = word ((m.drop (4 * t)).take 4) := fun t ht => by
    rw [wdt_lo _ _ ht, List.drop_take, List.take_take, show min 4 (64 - 4 * t) = 4 by omega]
  rw [hw 0 (by decide), hw 1 (by decide), hw 2 (by decide), hw 3 (by decide), hw 4 (by decide), hw 5 (by decide), hw 6 (by decide), hw 7 (by decide), hw 8 (by decide), hw 9 (by decide), hw 10 (by decide), hw 11 (by decide), hw 12 (by decide), hw 13 (by decide), hw 14 (by decide), hw 15 (by decide)]
  simp only [Nat.reduceMul, List.drop_zero]

def hstN {α : Type} : Nat → (Nat → Nat → Nat → Nat → Nat → Nat → Nat → Nat → List Nat → (Nat → Nat → Nat → Nat → Nat → Nat → Nat → Nat → α) → α)
  | 0, a, b, c, d, e, f, g, h, _, k => k a b c d e f g h
  | n + 1, a, b, c, d, e, f, g, h, l, k => tk64 l fun w0 w1 w2 w3 w4 w5 w6 w7 w8 w9 w10 w11 w12 w13 w14 w15 r => goN kcN w0 w1 w2 w3 w4 w5 w6 w7 w8 w9 w10 w11 w12 w13 w14 w15 a b c d e f g h fun a' b' c' d' e' f' g' h' =>
    fc ((a + a') % 4294967296) fun a2 => fc ((b + b') % 4294967296) fun b2 => fc ((c + c') % 4294967296) fun c2 => fc ((d + d') % 4294967296) fun d2 => fc ((e + e') % 4294967296) fun e2 => fc ((f + f') % 4294967296) fun f2 => fc ((g + g') % 4294967296) fun g2 => fc ((h + h') % 4294967296) fun h2 => hstN n a2 b2 c2 d2 e2 f2 g2 h2 r k
theorem hstN_eq {α : Type} (k : Nat → Nat → Nat → Nat → Nat → Nat → Nat → Nat → α) : ∀ (n : Nat) (s : S8) (m : List UInt8), 64 * n ≤ m.length → s.nat (fun a b c d e f g h => hstN n a b c d e f g h (nl m) k) = (hst n s m).nat k := by
  intro n
  induction n with
  | zero => intro s m _; rfl
  | succ n ih =>
    intro s m h
    rw [hst, ← ih _ _ (by simp; omega)]
    show hstN (n + 1) s.a.toNat s.b.toNat s.c.toNat s.d.toNat s.e.toNat s.f.toNat s.g.toNat s.h.toNat (nl m) k = _
    rw [hstN, tk64_eq _ _ (by omega)]
    have hg := goN_eq (m.take 64) s (fun a' b' c' d' e' f' g' h' => fc ((s.a.toNat + a') % 4294967296) fun a2 => fc ((s.b.toNat + b') % 4294967296) fun b2 => fc ((s.c.toNat + c') % 4294967296) fun c2 => fc ((s.d.toNat + d') % 4294967296) fun d2 => fc ((s.e.toNat + e') % 4294967296) fun e2 => fc ((s.f.toNat + f') % 4294967296) fun f2 => fc ((s.g.toNat + g') % 4294967296) fun g2 => fc ((s.h.toNat + h') % 4294967296) fun h2 => hstN n a2 b2 c2 d2 e2 f2 g2 h2 (nl (m.drop 64)) k) kcN 0 rfl rfl
    simp only [Nat.zero_add] at hg
    refine Eq.trans hg ?_
    simp only [S8.nat, fc_eq, compress, S8.add, UInt32.toNat_add, pw32]

def len8N (n : Nat) : List Nat := [n / 72057594037927936 % 256, n / 281474976710656 % 256, n / 1099511627776 % 256, n / 4294967296 % 256, n / 16777216 % 256, n / 65536 % 256, n / 256 % 256, n % 256]
def outN (a b c d e f g h : Nat) : List Nat := [a >>> 24 % 256, a >>> 16 % 256, a >>> 8 % 256, a >>> 0 % 256, b >>> 24 % 256, b >>> 16 % 256, b >>> 8 % 256, b >>> 0 % 256, c >>> 24 % 256, c >>> 16 % 256, c >>> 8 % 256, c >>> 0 % 256, d >>> 24 % 256, d >>> 16 % 256, d >>> 8 % 256, d >>> 0 % 256, e >>> 24 % 256, e >>> 16 % 256, e >>> 8 % 256, e >>> 0 % 256, f >>> 24 % 256, f >>> 16 % 256, f >>> 8 % 256, f >>> 0 % 256, g >>> 24 % 256, g >>> 16 % 256, g >>> 8 % 256, g >>> 0 % 256, h >>> 24 % 256, h >>> 16 % 256, h >>> 8 % 256, h >>> 0 % 256]
/-- The hash, as a list of numbers. -/
def shaN {α : Type} (l : List Nat) (k : List Nat → α) : α :=
  fc l.length fun n => hstN ((n + 9 + zeros n) / 64) 1779033703 3144134277 1013904242 2773480762 1359893119 2600822924 528734635 1541459225 (l ++ 128 :: (List.replicate (zeros n) 0 ++ len8N (8 * n))) fun a b c d e f g h => k (outN a b c d e f g h)
theorem len8N_eq (n : Nat) : len8N n = nl (len8 n) := by
  have e : ∀ x : Nat, (UInt8.ofNat (x % 256)).toNat = x % 256 := fun x => by simp
  unfold len8 nl len8N
  simp [List.range, List.range.loop]
theorem outN_eq (s : S8) : s.nat outN = nl (out32 s) := by
  have e : ∀ (x : UInt32) (n : Nat), n < 32 → x.toNat >>> n % 256 = (x >>> UInt32.ofNat n).toUInt8.toNat := fun x n h => by
    rw [UInt32.toNat_toUInt8, ← shr_eq _ _ h]
  unfold S8.nat outN
  rw [e _ 24 (by decide), e _ 16 (by decide), e _ 8 (by decide), e _ 0 (by decide), e _ 24 (by decide), e _ 16 (by decide), e _ 8 (by decide), e _ 0 (by decide), e _ 24 (by decide), e _ 16 (by decide), e _ 8 (by decide), e _ 0 (by decide), e _ 24 (by decide), e _ 16 (by decide), e _ 8 (by decide), e _ 0 (by decide), e _ 24 (by decide), e _ 16 (by decide), e _ 8 (by decide), e _ 0 (by decide), e _ 24 (by decide), e _ 16 (by decide), e _ 8 (by decide), e _ 0 (by decide), e _ 24 (by decide), e _ 16 (by decide), e _ 8 (by decide), e _ 0 (by decide), e _ 24 (by decide), e _ 16 (by decide), e _ 8 (by decide), e _ 0 (by decide)]
  rfl
theorem length_padding (n : Nat) : (padding n).length = 9 + zeros n := by
  simp [padding, len8]; omega
theorem shaN_eq {α : Type} (m : List UInt8) (k : List Nat → α) : shaN (nl m) k = k (nl (sha m)) := by
  unfold shaN sha state
  have hl : (nl m).length = m.length := by simp [nl]
  rw [fc_eq, hl]
  have hp : nl m ++ 128 :: (List.replicate (zeros m.length) 0 ++ len8N (8 * m.length)) = nl (m ++ padding m.length) := by
    rw [len8N_eq]
    simp [nl, padding]
  rw [hp]
  have hlen : (m ++ padding m.length).length = m.length + 9 + zeros m.length := by rw [List.length_append, length_padding]; omega
  rw [hlen]
  have h := hstN_eq (fun a b c d e f g h => k (outN a b c d e f g h)) ((m.length + 9 + zeros m.length) / 64) s8init (m ++ padding m.length) (by rw [hlen]; omega)
  refine Eq.trans h ?_
  rw [← outN_eq]
  rfl
/-- Equal lists of numbers. -/
def eqN : List Nat → List Nat → Bool
  | [], [] => true
  | x :: l, y :: r => Nat.beq x y && eqN l r
  | _, _ => false
theorem eqN_eq : ∀ (l r : List Nat), eqN l r = true → l = r := by
  intro l
  induction l with
  | nil => intro r h; cases r with
    | nil => rfl
    | cons => cases h
  | cons x l ih => intro r h; cases r with
    | nil => cases h
    | cons y r =>
      obtain ⟨h1, h2⟩ := Bool.and_eq_true_iff.1 h
      rw [Nat.eq_of_beq_eq_true h1, ih r h2]
theorem nl_inj {l r : List UInt8} (h : nl l = nl r) : l = r := by
  unfold nl at h
  exact (List.map_inj_right (fun _ _ h => UInt8.toNat.inj h)).1 h
theorem sha_is (m v : List UInt8) (h : shaN (nl m) (fun l => eqN l (nl v)) = true) : sha m = v := by
  rw [shaN_eq] at h
  exact nl_inj (eqN_eq _ _ h)
end Go.Proofs.YtidfbboalbchiaaDoor
