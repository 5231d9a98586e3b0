/- What is known of a frame and of memory while a function is walked through, and each operation as a step: a value, a new block, a store, a call. Conditions: those that each lemma names. -/
import Derived.WalkKit
import Derived.Deep.MidRow
import Derived.Test.YtidfbboalbchiaaDoorOrd
namespace Go.Proofs.YtidfbboalbchiaaDoor
open Go Go.RowKit

/-! ### The frame -/
abbrev Fm := List (Nat × Value)
/-- What slot n holds, as far as it is known. -/
def lk : Fm → Nat → Option Value
  | [], _ => none
  | (k, v) :: r, n => bif Nat.beq k n then some v else lk r n

structure Kn (a : Act) (N : Nat) (L : Fm) : Prop where
  df : a.defers = []
  sz : a.tmps.size = N
  ev : ∀ k v, lk L k = some v → a.tmps.getD k undef = v

theorem lk_cons {L : Fm} {d k : Nat} {v u : Value} (h : lk ((d, v) :: L) k = some u) : (k = d ∧ u = v) ∨ (k ≠ d ∧ lk L k = some u) := by
  unfold lk at h
  cases hb : Nat.beq d k with
  | true => rw [hb] at h; simp at h; exact .inl ⟨(Nat.eq_of_beq_eq_true hb).symm, h.symm⟩
  | false =>
    rw [hb] at h
    exact .inr ⟨fun e => (by rw [e] at hb; simp at hb), by simpa using h⟩

theorem Kn.put {a : Act} {N : Nat} {L : Fm} (hk : Kn a N L) {d : Nat} (v : Value) (hd : Nat.blt d N = true) : Kn (a.put (some d) v) N ((d, v) :: L) := by
  have hlt : d < a.tmps.size := by rw [hk.sz]; exact (Nat.blt_eq ▸ hd : d < N)
  refine ⟨hk.df, by simp [Act.put, hk.sz], fun k u h => ?_⟩
  rcases lk_cons h with ⟨rfl, rfl⟩ | ⟨hne, h⟩
  · simp [Act.put, hlt]
  · have := hk.ev k u h
    simp only [Act.put, Array.getD_eq_getD_getElem?] at this ⊢
    rw [Array.getElem?_setIfInBounds_ne (Ne.symm hne)]
    exact this

def Subs (L : Fm) : Fm → Prop
  | [] => True
  | (k, v) :: r => lk L k = some v ∧ Subs L r
theorem Subs.lk {L L' : Fm} (h : Subs L L') {k : Nat} {v : Value} (hv : lk L' k = some v) : lk L k = some v := by
  induction L' with
  | nil => simp [YtidfbboalbchiaaDoor.lk] at hv
  | cons p r ih =>
    obtain ⟨d, u⟩ := p
    rcases lk_cons hv with ⟨rfl, rfl⟩ | ⟨_, hv⟩
    · exact h.1
    · exact ih h.2 hv
/-- Forget all but these. -/
theorem Kn.sub {a : Act} {N : Nat} {L : Fm} (hk : Kn a N L) (L' : Fm) (h : Subs L L') : Kn a N L' := ⟨hk.df, hk.sz, fun _ _ hv => hk.ev _ _ (h.lk hv)⟩

/-- The operand's value, as far as it is known. -/
def ov (L : Fm) : Operand → Option Value
  | .tmp t => lk L t
  | .const v => some v
  | .global g => some (.pointer (some ⟨g, 0, none⟩))
  | .func f => some (.func (.func f) #[] #[])
theorem Kn.op {a : Act} {N : Nat} {L : Fm} (hk : Kn a N L) {x : Operand} {v : Value} (h : ov L x = some v) : a.eval x = v := by
  cases x <;> simp only [ov] at h
  · exact hk.ev _ _ h
  all_goals (cases h; rfl)
def ovs (L : Fm) : List Operand → Option (List Value)
  | [] => some []
  | x :: r => match ov L x, ovs L r with
    | some v, some vs => some (v :: vs)
    | _, _ => none
theorem Kn.ops {a : Act} {N : Nat} {L : Fm} (hk : Kn a N L) {xs : List Operand} {vs : List Value} (h : ovs L xs = some vs) : xs.map a.eval = vs := by
  induction xs generalizing vs with
  | nil => simp [ovs] at h; simp [h]
  | cons x r ih =>
    unfold ovs at h
    split at h
    · rename_i v vs' hv hvs
      cases h
      simp [hk.op hv, ih hvs]
    · cases h

/-- The answer of the operation on which a guard hangs. -/
def yl (ops : Array Oper) (L : Fm) (j : Nat) : Option (Option Bool) :=
  match (ops[j]?).bind (·.dst) with
  | some d => match lk L d with
    | some (.bool b) => some (some b)
    | some (.tuple _) => some none
    | _ => none
  | none => none
theorem Kn.yl {a : Act} {N : Nat} {L : Fm} (hk : Kn a N L) {ops : Array Oper} {j : Nat} {r : Option Bool} (h : yl ops L j = some r) : yielded ops a.tmps j = r := by
  unfold YtidfbboalbchiaaDoor.yl at h
  unfold yielded
  cases hd : (ops[j]?).bind (·.dst) with
  | none => simp [hd] at h
  | some d =>
    simp only [hd] at h
    simp only [Option.bind_some]
    cases hl : lk L d with
    | none => simp [hl] at h
    | some v =>
      have he := hk.ev d v hl
      simp only [Array.getD_eq_getD_getElem?] at he
      simp only [hl] at h
      cases hg : a.tmps[d]? with
      | none =>
        rw [hg] at he
        simp [undef] at he
        subst he
        simpa using h
      | some u =>
        rw [hg] at he
        simp at he
        subst he
        cases u <;> simp_all
/-- Is the operation carried out? -/
def wt (ops : Array Oper) (L : Fm) (o : Oper) : Option Bool :=
  match o.guard with
  | none => some true
  | some (j, want) => match yl ops L j with
    | some (some b) => some (b == want)
    | some none => some false
    | none => none
theorem Kn.wt {a : Act} {N : Nat} {L : Fm} (hk : Kn a N L) {ops : Array Oper} {o : Oper} {b : Bool} (h : wt ops L o = some b) : Region.wanted o (yielded ops a.tmps) = b := by
  unfold YtidfbboalbchiaaDoor.wt at h
  unfold Region.wanted
  cases hg : o.guard with
  | none => simp [hg] at h; simp [h]
  | some p =>
    obtain ⟨j, want⟩ := p
    simp only [hg] at h
    cases hy : YtidfbboalbchiaaDoor.yl ops L j with
    | none => simp [hy] at h
    | some r =>
      have := hk.yl hy
      simp only [this]
      cases r with
      | none => simp [hy] at h; simp [h]
      | some c => simp [hy] at h; simp [← h]

/-! ### A step -/
def Ev (P : Program) (o : Oper) (a : Act) (w : World) (v : Value) : Prop := (execOp a.eval o).run P w = .ok (.value v) w
def Ef (P : Program) (o : Oper) (a : Act) (w : World) (v : Value) (w' : World) : Prop := (execOp a.eval o).run P w = .ok (.value v) w'
def Es (P : Program) (o : Oper) (a : Act) (w : World) (w' : World) : Prop := (execOp a.eval o).run P w = .ok .skip w'
def Ec (P : Program) (o : Oper) (a : Act) (f : FuncId) (args : Array Value) : Prop := ∀ w, (execOp a.eval o).run P w = .ok (.enter f args) w

section
variable {P : Program} {ops : Array Oper} {Q : Exit → Act → World → Prop} {rest : List Oper} {o : Oper} {a : Act} {w w' : World} {N d : Nat} {L : Fm} {v : Value}

theorem ls (hk : Kn a N L) (hw : wt ops L o = some true) (hd : o.dst = some d) (hN : Nat.blt d N = true) (h : Ev P o a w v)
    (K : ∀ a', Kn a' N ((d, v) :: L) → wpList P ops Q rest a' w) : wpList P ops Q (o :: rest) a w := by
  unfold wpList
  rw [if_pos (hk.wt hw)]
  refine .inl ?_
  unfold Oper.wp
  rw [h, Oper.upon_value, hd]
  exact K _ (hk.put v hN)

theorem lf (hk : Kn a N L) (hw : wt ops L o = some true) (hd : o.dst = some d) (hN : Nat.blt d N = true) (h : Ef P o a w v w')
    (K : ∀ a', Kn a' N ((d, v) :: L) → wpList P ops Q rest a' w') : wpList P ops Q (o :: rest) a w := by
  unfold wpList
  rw [if_pos (hk.wt hw)]
  refine .inl ?_
  unfold Oper.wp
  rw [h, Oper.upon_value, hd]
  exact K _ (hk.put v hN)

/-- A value that is not kept. -/
theorem lf0 (hk : Kn a N L) (hw : wt ops L o = some true) (hd : o.dst = none) (h : Ef P o a w v w')
    (K : ∀ a', Kn a' N L → wpList P ops Q rest a' w') : wpList P ops Q (o :: rest) a w := by
  unfold wpList
  rw [if_pos (hk.wt hw)]
  refine .inl ?_
  unfold Oper.wp
  rw [h, Oper.upon_value, hd]
  exact K _ hk

theorem lst (hk : Kn a N L) (hw : wt ops L o = some true) (hd : o.dst = none) (h : Es P o a w w')
    (K : ∀ a', Kn a' N L → wpList P ops Q rest a' w') : wpList P ops Q (o :: rest) a w := by
  unfold wpList
  rw [if_pos (hk.wt hw)]
  refine .inl ?_
  unfold Oper.wp
  rw [h, Oper.upon_skip, hd]
  exact K _ hk

/-- It is not carried out. -/
theorem lno (hk : Kn a N L) (hw : wt ops L o = some false) (hd : o.dst = some d) (hN : Nat.blt d N = true)
    (K : ∀ a', Kn a' N ((d, undef) :: L) → wpList P ops Q rest a' w) : wpList P ops Q (o :: rest) a w := by
  unfold wpList
  rw [if_neg (by rw [hk.wt hw]; simp), hd]
  exact K _ (hk.put undef hN)

theorem lc {f : FuncId} {args : Array Value} {R : Ending → World → Prop} (hk : Kn a N L) (hw : wt ops L o = some true) (hd : o.dst = some d) (hN : Nat.blt d N = true) (h : Ec P o a f args) (hc : Calls P f args w R)
    (K : ∀ e w', R e w' → ∃ v, e = .returned v ∧ ∀ a', Kn a' N ((d, v) :: L) → wpList P ops Q rest a' w') : wpList P ops Q (o :: rest) a w := by
  unfold wpList
  rw [if_pos (hk.wt hw)]
  refine .inl ?_
  unfold Oper.wp
  rw [h w, Oper.upon_enter, hd]
  refine hc.mono fun e w' hR => ?_
  obtain ⟨v, rfl, hv⟩ := K e w' hR
  exact hv _ (hk.put v hN)

theorem lnil (h : Q .normal a w) : wpList P ops Q [] a w := h
end

/-! ### A step of a region that draws its order -/
section
variable {P : Program} {ops : Array Oper} {S : World → Prop} {cl : List Nat} {Z : Act → World → Prop} {n : Nat} {dn : Nat → Bool} {oi : Oper} {a : Act} {w w' : World} {N d : Nat} {L : Fm} {v : Value}

/-- A value, in whatever world. -/
theorem d0 (i : Nat) (hk : Kn a N L) (hi : ops[i]? = some oi) (hc : chkB ops cl dn i = true) (hcl : clAt cl i = 0) (hw : wt ops L oi = some true) (hd : oi.dst = some d) (hN : Nat.blt d N = true) (h : ∀ w, Ev P oi a w v)
    (K : ∀ a', Kn a' N ((d, v) :: L) → okAny P ops S cl Z n (upd dn i) a' w) : okAny P ops S cl Z (n + 1) dn a w := by
  refine front i hi hc ?_
  unfold wOp
  rw [if_pos (hk.wt hw), hcl]
  exact ⟨v, h, by rw [hd]; exact K _ (hk.put v hN)⟩
/-- A value, in this world. -/
theorem d1 (i : Nat) (hk : Kn a N L) (hi : ops[i]? = some oi) (hc : chkB ops cl dn i = true) (hcl : clAt cl i = 1) (hw : wt ops L oi = some true) (hd : oi.dst = some d) (hN : Nat.blt d N = true) (h : Ev P oi a w v)
    (K : ∀ a', Kn a' N ((d, v) :: L) → okAny P ops S cl Z n (upd dn i) a' w) : okAny P ops S cl Z (n + 1) dn a w := by
  refine front i hi hc ?_
  unfold wOp
  rw [if_pos (hk.wt hw), hcl]
  exact ⟨v, h, by rw [hd]; exact K _ (hk.put v hN)⟩
/-- A value, in every world that meets S. -/
theorem d3 (i : Nat) (hk : Kn a N L) (hi : ops[i]? = some oi) (hc : chkB ops cl dn i = true) (hcl : clAt cl i = 3) (hw : wt ops L oi = some true) (hd : oi.dst = some d) (hN : Nat.blt d N = true) (hS : S w) (h : ∀ w, S w → Ev P oi a w v)
    (K : ∀ a', Kn a' N ((d, v) :: L) → okAny P ops S cl Z n (upd dn i) a' w) : okAny P ops S cl Z (n + 1) dn a w := by
  refine front i hi hc ?_
  unfold wOp
  rw [if_pos (hk.wt hw), hcl]
  exact ⟨v, h, hS, by rw [hd]; exact K _ (hk.put v hN)⟩
/-- It acts. -/
theorem d2 (i : Nat) (hk : Kn a N L) (hi : ops[i]? = some oi) (hc : chkB ops cl dn i = true) (hcl : clAt cl i = 2) (hw : wt ops L oi = some true) (hd : oi.dst = some d) (hN : Nat.blt d N = true) (h : Ef P oi a w v w')
    (K : ∀ a', Kn a' N ((d, v) :: L) → okAny P ops S cl Z n (upd dn i) a' w') : okAny P ops S cl Z (n + 1) dn a w := by
  refine front i hi hc ?_
  unfold wOp
  rw [if_pos (hk.wt hw), hcl]
  exact .inl ⟨v, w', h, by rw [hd]; exact K _ (hk.put v hN)⟩
/-- It acts, and S is kept. -/
theorem d4 (i : Nat) (hk : Kn a N L) (hi : ops[i]? = some oi) (hc : chkB ops cl dn i = true) (hcl : clAt cl i = 4) (hw : wt ops L oi = some true) (hd : oi.dst = some d) (hN : Nat.blt d N = true) (hS : S w) (h : Ef P oi a w v w') (hS' : S w')
    (K : ∀ a', Kn a' N ((d, v) :: L) → okAny P ops S cl Z n (upd dn i) a' w') : okAny P ops S cl Z (n + 1) dn a w := by
  refine front i hi hc ?_
  unfold wOp
  rw [if_pos (hk.wt hw), hcl]
  exact ⟨hS, .inl ⟨v, w', h, hS', by rw [hd]; exact K _ (hk.put v hN)⟩⟩
/-- A store. -/
theorem d2s (i : Nat) (hk : Kn a N L) (hi : ops[i]? = some oi) (hc : chkB ops cl dn i = true) (hcl : clAt cl i = 2) (hw : wt ops L oi = some true) (hd : oi.dst = none) (h : Es P oi a w w')
    (K : ∀ a', Kn a' N L → okAny P ops S cl Z n (upd dn i) a' w') : okAny P ops S cl Z (n + 1) dn a w := by
  refine front i hi hc ?_
  unfold wOp
  rw [if_pos (hk.wt hw), hcl]
  exact .inr (.inl ⟨w', h, by rw [hd]; exact K _ hk⟩)
/-- A store, and S is kept. -/
theorem d4s (i : Nat) (hk : Kn a N L) (hi : ops[i]? = some oi) (hc : chkB ops cl dn i = true) (hcl : clAt cl i = 4) (hw : wt ops L oi = some true) (hd : oi.dst = none) (hS : S w) (h : Es P oi a w w') (hS' : S w')
    (K : ∀ a', Kn a' N L → okAny P ops S cl Z n (upd dn i) a' w') : okAny P ops S cl Z (n + 1) dn a w := by
  refine front i hi hc ?_
  unfold wOp
  rw [if_pos (hk.wt hw), hcl]
  exact ⟨hS, .inr (.inl ⟨w', h, hS', by rw [hd]; exact K _ hk⟩)⟩
/-- A call. -/
theorem d2c {f : FuncId} {args : Array Value} {R : Ending → World → Prop} (i : Nat) (hk : Kn a N L) (hi : ops[i]? = some oi) (hc : chkB ops cl dn i = true) (hcl : clAt cl i = 2) (hw : wt ops L oi = some true) (hd : oi.dst = some d) (hN : Nat.blt d N = true) (h : Ec P oi a f args) (hcal : Calls P f args w R)
    (K : ∀ e w', R e w' → ∃ v, e = .returned v ∧ ∀ a', Kn a' N ((d, v) :: L) → okAny P ops S cl Z n (upd dn i) a' w') : okAny P ops S cl Z (n + 1) dn a w := by
  refine front i hi hc ?_
  unfold wOp
  rw [if_pos (hk.wt hw), hcl]
  refine .inr (.inr ⟨f, args, w, h w, hcal.mono fun e w' hR => ?_⟩)
  obtain ⟨v, rfl, hv⟩ := K e w' hR
  exact ⟨v, rfl, by rw [hd]; exact hv _ (hk.put v hN)⟩
/-- A call, and S is kept. -/
theorem d4c {f : FuncId} {args : Array Value} {R : Ending → World → Prop} (i : Nat) (hk : Kn a N L) (hi : ops[i]? = some oi) (hc : chkB ops cl dn i = true) (hcl : clAt cl i = 4) (hw : wt ops L oi = some true) (hd : oi.dst = some d) (hN : Nat.blt d N = true) (hS : S w) (h : Ec P oi a f args) (hcal : Calls P f args w R)
    (K : ∀ e w', R e w' → ∃ v, e = .returned v ∧ S w' ∧ ∀ a', Kn a' N ((d, v) :: L) → okAny P ops S cl Z n (upd dn i) a' w') : okAny P ops S cl Z (n + 1) dn a w := by
  refine front i hi hc ?_
  unfold wOp
  rw [if_pos (hk.wt hw), hcl]
  refine ⟨hS, .inr (.inr ⟨f, args, w, h w, hcal.mono fun e w' hR => ?_⟩)⟩
  obtain ⟨v, rfl, hS', hv⟩ := K e w' hR
  exact ⟨v, rfl, hS', by rw [hd]; exact hv _ (hk.put v hN)⟩
/-- It is not carried out. -/
theorem dno (i : Nat) (hk : Kn a N L) (hi : ops[i]? = some oi) (hc : chkB ops cl dn i = true) (hw : wt ops L oi = some false) (hd : oi.dst = some d) (hN : Nat.blt d N = true)
    (K : ∀ a', Kn a' N ((d, undef) :: L) → okAny P ops S cl Z n (upd dn i) a' w) : okAny P ops S cl Z (n + 1) dn a w := by
  refine front i hi hc ?_
  unfold wOp
  rw [if_neg (by rw [hk.wt hw]; simp), hd]
  exact K _ (hk.put undef hN)
end

/-! ### Control -/
section
variable {P : Program} {Q : Exit → Act → World → Prop} {a : Act} {w : World} {N : Nat} {L : Fm}

/-- A call of a function begins: its parameters are known. -/
theorem enter {f : FuncId} {fn : Func} {c : Code} {args : List Value} {R : Ending → World → Prop} (N : Nat) (L : Fm) (hf : P.funcs[f]? = some fn) (hb : fn.body = some c) (hn : fn.ntmps = N) (hle : Nat.ble args.length N = true)
    (hL : ∀ k v, lk L k = some v → args[k]? = some v)
    (h : ∀ a, Kn a N L → c.wp P (bodyPost P fn R) a w) : Calls P f args.toArray w R := by
  refine calls_of_wp hf hb (h _ ⟨rfl, ?_, fun k v hv => ?_⟩)
  · have := Nat.le_of_ble_eq_true hle
    simp [hn]; omega
  · have := hL k v hv
    have hlt : k < args.length := (List.getElem?_eq_some_iff.1 this).1
    have e : args[k] = v := by simpa [hlt] using this
    simp [Array.getElem?_append, hlt, e]

/-- The parameters, numbered. -/
def ps : Nat → List Value → Fm
  | _, [] => []
  | i, v :: r => (i, v) :: ps (i + 1) r
theorem lk_ps : ∀ (l : List Value) (i k : Nat) (v : Value), lk (ps i l) k = some v → ∃ j, k = i + j ∧ l[j]? = some v := by
  intro l
  induction l with
  | nil => intro i k v h; simp [ps, lk] at h
  | cons x r ih =>
    intro i k v h
    rcases lk_cons h with ⟨rfl, rfl⟩ | ⟨_, h⟩
    · exact ⟨0, rfl, rfl⟩
    · obtain ⟨j, rfl, hj⟩ := ih (i + 1) k v h
      exact ⟨j + 1, by omega, hj⟩
theorem start {f : FuncId} {fn : Func} {c : Code} {args : List Value} {R : Ending → World → Prop} (N : Nat) (hf : P.funcs[f]? = some fn) (hb : fn.body = some c) (hn : fn.ntmps = N) (hle : Nat.ble args.length N = true)
    (h : ∀ a, Kn a N (ps 0 args) → c.wp P (bodyPost P fn R) a w) : Calls P f args.toArray w R :=
  enter N (ps 0 args) hf hb hn hle (fun k v hv => by obtain ⟨j, rfl, hj⟩ := lk_ps args 0 k v hv; simpa using hj) h

theorem cdT {x : Operand} {t e : Code} (hk : Kn a N L) (hx : ov L x = some (.bool true)) (h : t.wp P Q a w) : (Code.cond x t e).wp P Q a w := wp_cond_true (hk.op hx) h
theorem cdF {x : Operand} {t e : Code} (hk : Kn a N L) (hx : ov L x = some (.bool false)) (h : e.wp P Q a w) : (Code.cond x t e).wp P Q a w := wp_cond_false (hk.op hx) h
theorem cdB {x : Operand} {t e : Code} {b : Bool} (hk : Kn a N L) (hx : ov L x = some (.bool b)) (ht : b = true → t.wp P Q a w) (hf : b = false → e.wp P Q a w) : (Code.cond x t e).wp P Q a w := wp_cond_split (hk.op hx) ht hf

/-- A loop, with a number that goes down. -/
theorem loopN {c : Code} (J : Nat → Act → World → Prop) (n0 : Nat) (h0 : J n0 a w)
    (round : ∀ n a w, J n a w → c.wp P (Exit.then (fun a' w' => ∃ m, m < n ∧ J m a' w') Q) a w) : (Code.loop c).wp P Q a w := by
  intro b k cs
  have key : ∀ n a w, J n a w → ∃ e a' w', Q e a' w' ∧ Arrives P (lone (b.at a (.code c :: .inLoop c :: k)) cs w) b k cs e a' w' := by
    intro n
    induction n using Nat.strongRecOn with
    | _ n ih =>
      intro a w hI
      obtain ⟨e, a₁, w₁, hq, harr⟩ := round n a w hI b (.inLoop c :: k) cs
      cases e with
      | normal =>
        obtain ⟨m, hlt, hI₁⟩ := hq
        obtain ⟨e₂, a₂, w₂, hq₂, harr₂⟩ := ih m hlt a₁ w₁ hI₁
        exact ⟨e₂, a₂, w₂, hq₂, .of_steps (Steps.trans harr (.one step_inLoop)) harr₂⟩
      | exit id => exact ⟨_, a₁, w₁, hq, .pass (x := .inLoop c) rfl (fun _ _ => .inl (by simp)) harr⟩
      | goto l => exact ⟨_, a₁, w₁, hq, .pass (x := .inLoop c) rfl (fun _ _ => .inl (by simp)) harr⟩
      | ret => exact ⟨_, a₁, w₁, hq, .pass (x := .inLoop c) rfl (fun _ _ => .inl (by simp)) harr⟩
      | panic ch => exact ⟨_, a₁, w₁, hq, .pass (x := .inLoop c) rfl (fun _ _ => .inl (by simp)) harr⟩
      | outgrown => exact ⟨_, a₁, w₁, hq, .pass (x := .inLoop c) rfl (fun _ _ => .inl (by simp)) harr⟩
  obtain ⟨e, a', w', hq, harr⟩ := key n0 a w h0
  exact ⟨e, a', w', hq, .of_steps (.one step_loop) harr⟩
theorem nx {f : Act → World → Prop} {a : Act} {w : World} (h : f a w) : Exit.then f Q .normal a w := h

/-- One result in a slot. -/
theorem ret1 {fn : Func} {t : Tmp} {R : Ending → World → Prop} {v : Value} (hk : Kn a N L) (hr : fn.results = #[.tmp t]) (hv : lk L t = some v) (h : R (.returned v) w) : bodyPost P fn R .ret a w :=
  bodyPost_ret (by rw [results_tmp hr, hk.ev _ _ hv]) hk.df h
theorem ret1n {fn : Func} {t : Tmp} {R : Ending → World → Prop} {v : Value} (hk : Kn a N L) (hr : fn.results = #[.tmp t]) (hv : lk L t = some v) (h : R (.returned v) w) : bodyPost P fn R .normal a w :=
  bodyPost_end (by rw [results_tmp hr, hk.ev _ _ hv]) hk.df h
theorem ret2 {fn : Func} {t u : Tmp} {R : Ending → World → Prop} {v v' : Value} (hk : Kn a N L) (hr : fn.results = #[.tmp t, .tmp u]) (hv : lk L t = some v) (hv' : lk L u = some v') (h : R (.returned (.tuple #[v, v'])) w) : bodyPost P fn R .ret a w :=
  bodyPost_ret (by rw [results_tmp2 hr, hk.ev _ _ hv, hk.ev _ _ hv']) hk.df h
/-- No result. -/
theorem ret0n {fn : Func} {R : Ending → World → Prop} (hk : Kn a N L) (hr : fn.results = #[]) (h : R (.returned (.tuple #[])) w) : bodyPost P fn R .normal a w :=
  bodyPost_end (results_none hr _ _ _) hk.df h
/-- One result, an array or a struct, in a variable. -/
theorem retA {fn : Func} {p : Tmp} {ty : TypeId} {R : Ending → World → Prop} {g : Nat} {t : TypeId} {cs : Array Value} {fr : Nat × Nat} {d : TypeDesc} (hk : Kn a N L) (hr : fn.results = #[.cell p ty]) (hv : lk L p = some (.pointer (some ⟨g, 0, none⟩)))
    (hg : w.heap[g]? = some (.cells cs t fr)) (hu : P.underlying ty = some d) (hd : (match d with | .struct _ | .array _ _ => true | _ => false) = true) (hi : (P.info? ty).map (·.size) = some cs.size)
    (h : R (.returned (.agg cs)) w) : bodyPost P fn R .ret a w :=
  bodyPost_ret (results_cell_row hr a.tmps w g t cs fr d (hk.ev _ _ hv) hg hu hd hi) hk.df h
/-- Two results, the first one an array or a struct in a variable. -/
theorem retA1 {fn : Func} {p u : Tmp} {ty : TypeId} {R : Ending → World → Prop} {g : Nat} {t : TypeId} {cs : Array Value} {fr : Nat × Nat} {d : TypeDesc} {v' : Value} (hk : Kn a N L) (hr : fn.results = #[.cell p ty, .tmp u]) (hv : lk L p = some (.pointer (some ⟨g, 0, none⟩))) (hv' : lk L u = some v')
    (hg : w.heap[g]? = some (.cells cs t fr)) (hu : P.underlying ty = some d) (hd : (match d with | .struct _ | .array _ _ => true | _ => false) = true) (hi : (P.info? ty).map (·.size) = some cs.size)
    (h : R (.returned (.tuple #[.agg cs, v'])) w) : bodyPost P fn R .ret a w := by
  refine bodyPost_ret ?_ hk.df h
  have h1 := hk.ev _ _ hv
  have h2 := hk.ev _ _ hv'
  have h1' : a.tmps[p]?.getD undef = .pointer (some ⟨g, 0, none⟩) := by simpa using h1
  have h2' : a.tmps[u]?.getD undef = v' := by simpa using h2
  simp [results, hr, h1', h2', asAddr, run_loadVar_row w g t ty cs fr d hg hu hd hi]
end
end Go.Proofs.YtidfbboalbchiaaDoor
