/- A region that draws its order, walked with an invariant instead of in one order: what holds when a set of operations is done. Conditions: each operation that is ready keeps the invariant. -/
import Derived.Test.YtidfbboalbchiaaDoorMem2
namespace Go.Proofs.YtidfbboalbchiaaDoor
open Go Go.RowKit

section
variable {P : Program} {ops : Array Oper} {S : World → Prop} {cl : List Nat} {Z : Act → World → Prop}

/-- Every operation of the list meets Q. -/
def AllOps (Q : Nat → Oper → Prop) : Nat → List Oper → Prop
  | _, [] => True
  | i, o :: r => Q i o ∧ AllOps Q (i + 1) r
theorem allOps_get {Q : Nat → Oper → Prop} : ∀ (l : List Oper) (k i : Nat) (o : Oper), AllOps Q k l → l[i]? = some o → Q (k + i) o := by
  intro l
  induction l with
  | nil => intro k i o _ h; simp at h
  | cons x r ih =>
    intro k i o hA h
    cases i with
    | zero => simp at h; subst h; exact hA.1
    | succ i => rw [show k + (i + 1) = k + 1 + i by omega]; exact ih (k + 1) i o hA.2 (by simpa using h)

/-- The operation waits for that one. -/
def edgeB (ops : Array Oper) (i j : Nat) : Bool :=
  match ops[i]? with
  | some o => o.after.toList.any fun e => Region.binds .any e && Nat.beq e.on j
  | none => false
theorem rdy_pre {d : Nat → Bool} {i : Nat} (h : rdyB ops d i = true) (j : Nat) (hj : edgeB ops i j = true) : d j = true := by
  obtain ⟨o, ho, _, he⟩ := rdy_iff.1 h
  unfold edgeB at hj
  rw [ho] at hj
  obtain ⟨e, hm, hq⟩ := List.any_eq_true.1 hj
  obtain ⟨hb, hq⟩ := Bool.and_eq_true_iff.1 hq
  have hm : e ∈ o.after := by simpa using hm
  rw [← Nat.eq_of_beq_eq_true hq]
  exact he e hm hb
theorem rdy_not {d : Nat → Bool} {i : Nat} (h : rdyB ops d i = true) : d i = false := by obtain ⟨_, _, h, _⟩ := rdy_iff.1 h; exact h

/-- How many of the first m are not done. -/
def left (d : Nat → Bool) : Nat → Nat
  | 0 => 0
  | m + 1 => left d m + bif d m then 0 else 1
theorem left_none (m : Nat) : left (fun _ => false) m = m := by
  induction m with
  | zero => rfl
  | succ m ih => simp [left, ih]
theorem left_upd_ge (d : Nat → Bool) (i m : Nat) (h : m ≤ i) : left (upd d i) m = left d m := by
  induction m with
  | zero => rfl
  | succ m ih => rw [left, left, ih (by omega), upd_ne (by omega)]
theorem left_upd {d : Nat → Bool} {i : Nat} (hd : d i = false) (m : Nat) (h : i < m) : left (upd d i) m + 1 = left d m := by
  induction m with
  | zero => omega
  | succ m ih =>
    rw [left, left]
    by_cases he : i = m
    · subst he; rw [left_upd_ge _ _ _ (Nat.le_refl _), upd_self, hd]; rfl
    · have := ih (by omega)
      rw [upd_ne (by omega)]
      omega
theorem left_zero {d : Nat → Bool} (m : Nat) (h : left d m = 0) (i : Nat) (hi : i < m) : d i = true := by
  cases hd : d i with
  | true => rfl
  | false => have := left_upd hd m hi; omega

/-- The invariant's rule. -/
theorem okInv_aux (J : (Nat → Bool) → Act → World → Prop)
    (step : AllOps (fun i o => ∀ d a w, rdyB ops d i = true → J d a w → wOp P ops S (clAt cl i) o (J (upd d i)) a w) 0 ops.toList)
    (fin : ∀ d a w, (∀ i, rdyB ops d i = false) → J d a w → Z a w) : ∀ (n : Nat) (d : Nat → Bool) (a : Act) (w : World), left d ops.size ≤ n → J d a w → okAny P ops S cl Z n d a w := by
  intro n
  induction n with
  | zero =>
    intro d a w hn hJ
    have hr : ∀ i, rdyB ops d i = false := by
      intro i
      cases hq : rdyB ops d i with
      | false => rfl
      | true =>
        obtain ⟨o, ho, hf, _⟩ := rdy_iff.1 hq
        have := left_zero _ (Nat.le_zero.1 hn) i (Array.getElem?_eq_some_iff.1 ho).1
        rw [this] at hf; cases hf
    exact ⟨hr, fin d a w hr hJ⟩
  | succ n ih =>
    intro d a w hn hJ
    refine ⟨fun hr => fin d a w hr hJ, fun i o ho hr => ?_⟩
    have h := allOps_get (Q := fun i o => ∀ d a w, rdyB ops d i = true → J d a w → wOp P ops S (clAt cl i) o (J (upd d i)) a w) ops.toList 0 i o step (by simpa using ho)
    rw [Nat.zero_add] at h
    obtain ⟨_, _, hf, _⟩ := rdy_iff.1 hr
    have hlt := (Array.getElem?_eq_some_iff.1 ho).1
    have := left_upd hf ops.size hlt
    exact (h d a w hr hJ).mono fun a' w' hJ' => ih _ a' w' (by omega) hJ'
/-- All are done when none is ready: for the regions whose edges go forward. -/
def fwdB (ops : Array Oper) : Bool := (List.range ops.size).all fun i => (List.range ops.size).all fun j => !edgeB ops i j || Nat.blt j i
def onB (ops : Array Oper) : Bool := ops.all fun o => o.after.all fun e => Nat.blt e.on ops.size
theorem all_done {d : Nat → Bool} (hf : (fwdB ops && onB ops) = true) (h : ∀ i, rdyB ops d i = false) : ∀ i, i < ops.size → d i = true := by
  have hf' := Bool.and_eq_true_iff.1 hf
  intro i
  induction i using Nat.strongRecOn with
  | _ i ih =>
    intro hi
    cases hd : d i with
    | true => rfl
    | false =>
      have ho : ops[i]? = some ops[i] := by simp [hi]
      have : rdyB ops d i = true := by
        refine rdy_iff.2 ⟨_, ho, hd, fun e he hb => ?_⟩
        have hon : e.on < ops.size := by
          have h1 := hf'.2
          unfold onB at h1
          rw [Array.all_eq_true_iff_forall_mem] at h1
          have h2 := h1 ops[i] (by simp)
          rw [Array.all_eq_true_iff_forall_mem] at h2
          have h3 := h2 e he
          rw [Nat.blt_eq] at h3
          exact h3
        have hed : edgeB ops i e.on = true := by
          unfold edgeB
          rw [ho]
          exact List.any_eq_true.2 ⟨e, by simpa using he, Bool.and_eq_true_iff.2 ⟨hb, Nat.beq_refl _⟩⟩
        have h1 := List.all_eq_true.1 (List.all_eq_true.1 hf'.1 i (List.mem_range.2 hi)) e.on (List.mem_range.2 hon)
        rw [hed] at h1
        have h2 : e.on < i := by simpa [Nat.blt_eq] using h1
        exact ih _ h2 hon
      rw [h i] at this; cases this
theorem okInv (J : (Nat → Bool) → Act → World → Prop) (hf : (fwdB ops && onB ops) = true) {a : Act} {w : World} (h0 : J (fun _ => false) a w)
    (fin : ∀ d a w, (∀ i, i < ops.size → d i = true) → J d a w → Z a w)
    (step : AllOps (fun i o => ∀ d a w, rdyB ops d i = true → J d a w → wOp P ops S (clAt cl i) o (J (upd d i)) a w) 0 ops.toList) : okAny P ops S cl Z ops.size (fun _ => false) a w :=
  okInv_aux J step (fun d a w hr hJ => fin d a w (all_done hf hr) hJ) _ _ _ _ (by rw [left_none]; exact Nat.le_refl _) h0

theorem blt_lt {m n : Nat} (h : Nat.blt m n = true) : m < n := by rw [Nat.blt_eq] at h; exact h
theorem noF {p : Prop} (h : false = true) : p := by cases h
/-- What is outside D waits for all of D, or for something outside D. -/
def frontB (ops : Array Oper) (D : Nat → Bool) : Bool := (List.range ops.size).all fun i => D i || ((List.range ops.size).all fun j => !D j || waitsB ops ops.size i j) || (List.range ops.size).any fun j => !D j && waitsB ops ops.size i j
theorem okFront_aux (D : Nat → Bool) (J : (Nat → Bool) → Act → World → Prop) (hf : (fwdB ops && onB ops) = true) (hF : frontB ops D = true) (hS : ∀ k, D k = true → k < ops.size)
    (step : AllOps (fun i o => D i = true → ∀ d a w, rdyB ops d i = true → J d a w → wOp P ops S (clAt cl i) o (J (upd d i)) a w) 0 ops.toList)
    (fin : ∀ a w, J D a w → okAny P ops S cl Z (left D ops.size) D a w) : ∀ (n : Nat) (d : Nat → Bool) (a : Act) (w : World), left d ops.size = n → (∀ k, d k = true → D k = true) → Closed ops d → J d a w → okAny P ops S cl Z n d a w := by
  intro n
  induction n with
  | zero =>
    intro d a w hn hd _ hJ
    have e : d = D := by
      funext k
      cases hk : D k with
      | true => exact left_zero _ hn k (hS k hk)
      | false =>
        cases hq : d k with
        | false => rfl
        | true => rw [hd k hq] at hk; cases hk
    subst e
    rw [← hn]
    exact fin a w hJ
  | succ n ih =>
    intro d a w hn hd hc hJ
    by_cases hall : ∀ k, D k = true → d k = true
    · have e : d = D := by
        funext k
        cases hk : D k with
        | true => exact hall k hk
        | false =>
          cases hq : d k with
          | false => rfl
          | true => rw [hd k hq] at hk; cases hk
      subst e
      rw [← hn]
      exact fin a w hJ
    · refine ⟨fun hr => ?_, fun i o ho hr => ?_⟩
      · exact absurd (fun k hk => all_done hf hr k (hS k hk)) hall
      · have hlt := (Array.getElem?_eq_some_iff.1 ho).1
        obtain ⟨o', ho', hfi, he⟩ := rdy_iff.1 hr
        have hpre : ∀ j, waitsB ops ops.size i j = true → d j = true := fun j hj => waits_done hc _ _ hj fun o'' ho'' e hm hb => by
          obtain rfl := Option.some.inj (ho'.symm.trans ho'')
          exact he e hm hb
        have hDi : D i = true := by
          have h1 := List.all_eq_true.1 hF i (List.mem_range.2 hlt)
          rcases Bool.or_eq_true_iff.1 h1 with h1 | h1
          · rcases Bool.or_eq_true_iff.1 h1 with h1 | h1
            · exact h1
            · refine absurd (fun k hk => ?_) hall
              have h2 := List.all_eq_true.1 h1 k (List.mem_range.2 (hS k hk))
              rw [hk] at h2
              exact hpre k (by simpa using h2)
          · obtain ⟨j, _, hj⟩ := List.any_eq_true.1 h1
            obtain ⟨hj1, hj2⟩ := Bool.and_eq_true_iff.1 hj
            have := hd j (hpre j hj2)
            rw [this] at hj1; cases hj1
        have h := allOps_get (Q := fun i o => D i = true → ∀ d a w, rdyB ops d i = true → J d a w → wOp P ops S (clAt cl i) o (J (upd d i)) a w) ops.toList 0 i o step (by simpa using ho)
        rw [Nat.zero_add] at h
        have hl := left_upd hfi ops.size hlt
        refine (h hDi d a w hr hJ).mono fun a' w' hJ' => ih _ a' w' (by omega) (fun k hk => ?_) (fun j oj hoj hdj e hm hb => ?_) hJ'
        · by_cases hki : k = i
          · subst hki; exact hDi
          · rw [upd_ne hki] at hk; exact hd k hk
        · by_cases hji : j = i
          · subst hji
            obtain rfl := Option.some.inj (ho'.symm.trans hoj)
            exact upd_of (he e hm hb)
          · rw [upd_ne hji] at hdj
            exact upd_of (hc j oj hoj hdj e hm hb)
/-- The operations of D first, in whatever order; then the others. -/
theorem okFront (D : Nat → Bool) (J : (Nat → Bool) → Act → World → Prop) (r : Nat) (hf : (fwdB ops && onB ops && frontB ops D && Nat.beq (left D ops.size) r) = true) (hS : ∀ k, D k = true → k < ops.size) {a : Act} {w : World}
    (h0 : J (fun _ => false) a w)
    (fin : ∀ a w, J D a w → okAny P ops S cl Z r D a w)
    (step : AllOps (fun i o => D i = true → ∀ d a w, rdyB ops d i = true → J d a w → wOp P ops S (clAt cl i) o (J (upd d i)) a w) 0 ops.toList) : okAny P ops S cl Z ops.size (fun _ => false) a w := by
  obtain ⟨hg, hr⟩ := Bool.and_eq_true_iff.1 hf
  obtain ⟨hh, hF⟩ := Bool.and_eq_true_iff.1 hg
  have hr := Nat.eq_of_beq_eq_true hr
  subst hr
  exact okFront_aux D J hh hF hS step fin _ _ _ _ (left_none _) (fun k hk => by cases hk) (fun j o _ h => by cases h) h0

/-- A value as a step that acts. -/
theorem ev_act {o : Oper} {a : Act} {w : World} {N d : Nat} {L : Fm} {v : Value} {K : Act → World → Prop} (hk : Kn a N L) (hd : o.dst = some d) (hN : Nat.blt d N = true) (h : Ev P o a w v)
    (hK : ∀ a', Kn a' N ((d, v) :: L) → K a' w) : acts P o K a w := act_v hk hd hN h hK
/-- A frame's slots, named by what they hold. -/
theorem Kn.own {a : Act} {N : Nat} {L : Fm} (hk : Kn a N L) (t : Nat) : Kn a N ((t, a.tmps.getD t undef) :: L) :=
  ⟨hk.df, hk.sz, fun k v h => by
    rcases lk_cons h with ⟨rfl, rfl⟩ | ⟨_, h⟩
    · rfl
    · exact hk.ev k v h⟩
/-- The first of two that know a slot counts. -/
theorem Kn.lift {a : Act} {N : Nat} {L : Fm} (hk : Kn a N L) (t : Nat) {v : Value} (h : lk L t = some v) : Kn a N ((t, v) :: L) :=
  ⟨hk.df, hk.sz, fun k u hu => by
    rcases lk_cons hu with ⟨rfl, rfl⟩ | ⟨_, hu⟩
    · exact hk.ev _ _ h
    · exact hk.ev k u hu⟩
end
end Go.Proofs.YtidfbboalbchiaaDoor
