/- Part 1 of the texts that a claim's last texts stand on: Ord, Lib, Ops, Mem, Mem2, Facts. Conditions: those that each theorem names. -/
import Derived.Orders
import Derived.OrdersHeld
import Derived.Laws.World
import Derived.KernelRfl
import Derived.WalkKit
import Derived.Deep.MidRow
import Derived.Laws.CopyOwn
import Derived.Laws.BytesArg
import Derived.Laws.IdiomStrings
import Derived.Lib.AppendStr
import Derived.Test.YtidfbboalbchiaaDoorRows
namespace Go.Proofs.YtidfbboalbchiaaDoor
open Go

section
variable {P : Program} {ops : Array Oper} {S : World → Prop}

/-- An operation that runs to its end: a value, nothing, or a call that returns. -/
def acts (P : Program) (o : Oper) (K : Act → World → Prop) (a : Act) (w : World) : Prop :=
  (∃ u w', (execOp a.eval o).run P w = .ok (.value u) w' ∧ K (a.put o.dst u) w') ∨
  (∃ w', (execOp a.eval o).run P w = .ok .skip w' ∧ K (a.put o.dst undef) w') ∨
  (∃ f args w', (execOp a.eval o).run P w = .ok (.enter f args) w' ∧ Calls P f args w' fun e w'' => ∃ u, e = .returned u ∧ K (a.put o.dst u) w'')

/-- By class: 0 a value in whatever world; 1 a value in this world, which stays; 3 a value in every world that meets S; 2 it acts; 4 it acts, and S holds before and behind it. -/
def okOp (P : Program) (S : World → Prop) (c : Nat) (o : Oper) (K : Act → World → Prop) (a : Act) (w : World) : Prop :=
  match c with
  | 0 => ∃ u, (∀ w, (execOp a.eval o).run P w = .ok (.value u) w) ∧ K (a.put o.dst u) w
  | 1 => ∃ u, (execOp a.eval o).run P w = .ok (.value u) w ∧ K (a.put o.dst u) w
  | 3 => ∃ u, (∀ w, S w → (execOp a.eval o).run P w = .ok (.value u) w) ∧ S w ∧ K (a.put o.dst u) w
  | 2 => acts P o K a w
  | _ => S w ∧ acts P o (fun a' w' => S w' ∧ K a' w') a w

def wOp (P : Program) (ops : Array Oper) (S : World → Prop) (c : Nat) (o : Oper) (K : Act → World → Prop) (a : Act) (w : World) : Prop :=
  if Region.wanted o (yielded ops a.tmps) = true then okOp P S c o K a w else K (a.put o.dst undef) w

theorem acts.mono {o : Oper} {K K' : Act → World → Prop} {a : Act} {w : World} (h : acts P o K a w) (hk : ∀ a w, K a w → K' a w) : acts P o K' a w := by
  rcases h with ⟨u, w', h1, h2⟩ | ⟨w', h1, h2⟩ | ⟨f, args, w', h1, h2⟩
  · exact .inl ⟨u, w', h1, hk _ _ h2⟩
  · exact .inr (.inl ⟨w', h1, hk _ _ h2⟩)
  · exact .inr (.inr ⟨f, args, w', h1, h2.mono fun e w'' ⟨u, he, hu⟩ => ⟨u, he, hk _ _ hu⟩⟩)

theorem okOp.mono {c : Nat} {o : Oper} {K K' : Act → World → Prop} {a : Act} {w : World} (h : okOp P S c o K a w) (hk : ∀ a w, K a w → K' a w) : okOp P S c o K' a w := by
  unfold okOp at *
  split at h
  · obtain ⟨u, h1, h2⟩ := h; exact ⟨u, h1, hk _ _ h2⟩
  · obtain ⟨u, h1, h2⟩ := h; exact ⟨u, h1, hk _ _ h2⟩
  · obtain ⟨u, h1, h2, h3⟩ := h; exact ⟨u, h1, h2, hk _ _ h3⟩
  · exact acts.mono h hk
  · exact ⟨h.1, acts.mono h.2 fun a w ⟨x, y⟩ => ⟨x, hk _ _ y⟩⟩

theorem wOp.mono {c : Nat} {o : Oper} {K K' : Act → World → Prop} {a : Act} {w : World} (h : wOp P ops S c o K a w) (hk : ∀ a w, K a w → K' a w) : wOp P ops S c o K' a w := by
  unfold wOp at *
  split at h
  · rename_i hw; rw [if_pos hw]; exact h.mono hk
  · rename_i hw; rw [if_neg hw]; exact hk _ _ h

/-- It is a step of the kit's walk. -/
theorem wOp.wpOp {Q : Exit → Act → World → Prop} {c i : Nat} {o : Oper} {K : Act → World → Prop} {a : Act} {w : World} (ho : ops[i]? = some o) (h : wOp P ops S c o K a w) : Go.wpOp P ops Q i K a w := by
  have key : ∀ (K : Act → World → Prop) (a : Act) (w : World), acts P o K a w → o.wp P a w K Q := by
    intro K a w h
    unfold Oper.wp
    rcases h with ⟨u, w', h1, h2⟩ | ⟨w', h1, h2⟩ | ⟨f, args, w', h1, h2⟩
    · rw [h1]; exact h2
    · rw [h1]; exact h2
    · rw [h1]
      exact h2.mono fun e w'' ⟨u, he, hu⟩ => by subst he; exact hu
  unfold Go.wpOp
  simp only [ho]
  unfold wOp at h
  split at h
  · rename_i hw
    rw [if_pos hw]
    refine .inl ?_
    unfold okOp at h
    split at h
    · obtain ⟨u, h1, h2⟩ := h; exact key _ _ _ (.inl ⟨u, w, h1 w, h2⟩)
    · obtain ⟨u, h1, h2⟩ := h; exact key _ _ _ (.inl ⟨u, w, h1, h2⟩)
    · obtain ⟨u, h1, h2, h3⟩ := h; exact key _ _ _ (.inl ⟨u, w, h1 w h2, h3⟩)
    · exact key _ _ _ h
    · exact key _ _ _ (acts.mono h.2 fun a w x => x.2)
  · rename_i hw
    rw [if_neg hw]
    exact h

/-! ### Two operations that are apart -/

/-- x yields u in every world that meets T, in state a (or it is not wanted there). -/
def Yl (P : Program) (ops : Array Oper) (T : World → Prop) (x : Oper) (u : Value) (a : Act) : Prop := YieldsIf P ops T x u a

theorem Yl.put {T : World → Prop} {x y : Oper} {u : Value} {a : Act} (hs : ∀ cs b, x.op ≠ .select cs b) (h3 : ∀ d, y.dst = some d → d ∉ x.looksAt ops) (v : Value) :
    Yl P ops T x u (a.put y.dst v) ↔ Yl P ops T x u a := by
  unfold Yl YieldsIf
  rw [execOp_put (ops := ops) x hs a y.dst v h3, wanted_put x a y.dst v h3]

/-- The world's condition under which the value of an operation of class 0, 1, 3 stands. -/
def cond (S : World → Prop) (w : World) : Nat → World → Prop
  | 0 => fun _ => True
  | 1 => fun w' => w' = w
  | _ => S

def isY (c : Nat) : Bool := c == 0 || c == 1 || c == 3

theorem yOf {c : Nat} {o : Oper} {K : Act → World → Prop} {a : Act} {w : World} (hc : isY c = true) (h : wOp P ops S c o K a w) :
    ∃ u, Yl P ops (cond S w c) o u a ∧ (Region.wanted o (yielded ops a.tmps) = true → cond S w c w) ∧ K (a.put o.dst u) w := by
  unfold wOp at h
  by_cases hw : Region.wanted o (yielded ops a.tmps) = true
  · rw [if_pos hw] at h
    unfold okOp at h
    split at h
    · obtain ⟨u, h1, h2⟩ := h; exact ⟨u, .inl ⟨hw, fun w _ => h1 w⟩, fun _ => trivial, h2⟩
    · obtain ⟨u, h1, h2⟩ := h; exact ⟨u, .inl ⟨hw, fun w' (e : w' = w) => e ▸ h1⟩, fun _ => rfl, h2⟩
    · obtain ⟨u, h1, h2, h3⟩ := h; exact ⟨u, .inl ⟨hw, h1⟩, fun _ => h2, h3⟩
    · simp [isY] at hc
    · rename_i c' h0 h1 h2 h3
      simp [isY] at hc
      rcases hc with (hc | hc) | hc <;> simp_all
  · rw [if_neg hw] at h
    exact ⟨undef, .inr ⟨by simpa using hw, rfl⟩, fun h' => absurd h' hw, h⟩

theorem ofY {c : Nat} {o : Oper} {K : Act → World → Prop} {a : Act} {w : World} {u : Value} (hc : isY c = true) (hy : Yl P ops (cond S w c) o u a)
    (hT : Region.wanted o (yielded ops a.tmps) = true → cond S w c w) (h : K (a.put o.dst u) w) : wOp P ops S c o K a w := by
  unfold wOp
  rcases hy with ⟨hw, hy⟩ | ⟨hw, rfl⟩
  · rw [if_pos hw]
    simp [isY] at hc
    rcases hc with (hc | hc) | hc <;> subst hc <;> simp only [okOp]
    · exact ⟨u, fun w => hy w trivial, h⟩
    · exact ⟨u, hy w rfl, h⟩
    · exact ⟨u, hy, hT hw, h⟩
  · rw [if_neg (by simp [hw])]
    exact h

theorem okOp.act {c : Nat} {o : Oper} {K : Act → World → Prop} {a : Act} {w : World} (hc : isY c = false) :
    okOp P S c o K a w ↔ (c = 2 ∧ acts P o K a w) ∨ (c ≠ 2 ∧ S w ∧ acts P o (fun a' w' => S w' ∧ K a' w') a w) := by
  unfold okOp
  split
  · simp [isY] at hc
  · simp [isY] at hc
  · simp [isY] at hc
  · simp
  · rename_i h0 h1 h3 h2
    constructor
    · exact fun h => .inr ⟨h2, h⟩
    · rintro (⟨h, _⟩ | ⟨_, h⟩)
      · exact absurd h h2
      · exact h

/-- May two operations that are apart be exchanged? -/
def commB (c d : Nat) : Bool := c == 0 || d == 0 || (isY c && isY d) || (c == 3 && d == 4) || (c == 4 && d == 3)

theorem commB_symm (c d : Nat) : commB c d = commB d c := by
  unfold commB
  cases h1 : (c == 0) <;> cases h2 : (d == 0) <;> cases h3 : isY c <;> cases h4 : isY d <;> cases h5 : (c == 3) <;> cases h6 : (d == 4) <;> cases h7 : (c == 4) <;> cases h8 : (d == 3) <;> rfl

/-- First x, a value; then y, which may act. The other way round it comes to the same. -/
theorem comm_ya {T : World → Prop} {x y : Oper} {u : Value} {K : Act → World → Prop} {a : Act} {w : World}
    (hap : x.apart ops y = true) (hsx : ∀ cs b, x.op ≠ .select cs b) (hsy : ∀ cs b, y.op ≠ .select cs b)
    (hy : Yl P ops T x u a) (h : acts P y (fun a' w' => T w' ∧ K a' w') (a.put x.dst u) w) :
    acts P y (fun a' w' => T w' ∧ Yl P ops T x u a' ∧ K (a'.put x.dst u) w') a w := by
  obtain ⟨h1, h2, h3⟩ := Oper.apart_spec hap
  have e : execOp (a.put x.dst u).eval y = execOp a.eval y := execOp_put (ops := ops) y hsy a x.dst u h1
  have pc : ∀ v, (a.put x.dst u).put y.dst v = (a.put y.dst v).put x.dst u := fun v => Act.put_comm a u v h2
  unfold acts at *
  rw [e] at h
  rcases h with ⟨v, w', r, ht, k⟩ | ⟨w', r, ht, k⟩ | ⟨f, args, w', r, k⟩
  · exact .inl ⟨v, w', r, ht, (Yl.put hsx h3 v).2 hy, pc v ▸ k⟩
  · exact .inr (.inl ⟨w', r, ht, (Yl.put hsx h3 _).2 hy, pc _ ▸ k⟩)
  · exact .inr (.inr ⟨f, args, w', r, k.mono fun e w'' ⟨v, he, ht, k⟩ => ⟨v, he, ht, (Yl.put hsx h3 v).2 hy, pc v ▸ k⟩⟩)

theorem Yl.det {T : World → Prop} {x : Oper} {u v : Value} {a : Act} {w : World} (hT : Region.wanted x (yielded ops a.tmps) = true → T w) (h : Yl P ops T x u a) (k : Yl P ops T x v a) : u = v := by
  rcases h with ⟨hw, h⟩ | ⟨hw, rfl⟩ <;> rcases k with ⟨kw, k⟩ | ⟨kw, rfl⟩
  · have := (h w (hT hw)).symm.trans (k w (hT hw))
    simpa using this
  · simp_all
  · simp_all
  · rfl

/-- First y, which may act; then x, a value. -/
theorem comm_ay {T : World → Prop} {x y : Oper} {K : Act → World → Prop} {a : Act} {w : World}
    (hap : x.apart ops y = true) (hsx : ∀ cs b, x.op ≠ .select cs b) (hsy : ∀ cs b, y.op ≠ .select cs b)
    (h : acts P y (fun a' w' => ∃ u, Yl P ops T x u a' ∧ (Region.wanted x (yielded ops a'.tmps) = true → T w') ∧ K (a'.put x.dst u) w') a w) :
    ∃ u, Yl P ops T x u a ∧ acts P y K (a.put x.dst u) w := by
  obtain ⟨h1, h2, h3⟩ := Oper.apart_spec hap
  have e : ∀ u, execOp (a.put x.dst u).eval y = execOp a.eval y := fun u => execOp_put (ops := ops) y hsy a x.dst u h1
  have pc : ∀ u v, (a.put x.dst u).put y.dst v = (a.put y.dst v).put x.dst u := fun u v => Act.put_comm a u v h2
  have hwx : ∀ v, Region.wanted x (yielded ops (a.put y.dst v).tmps) = Region.wanted x (yielded ops a.tmps) := fun v => wanted_put x a y.dst v h3
  unfold acts at *
  rcases h with ⟨v, w', r, u, hy, ht, k⟩ | ⟨w', r, u, hy, ht, k⟩ | ⟨f, args, w', r, k⟩
  · exact ⟨u, (Yl.put hsx h3 v).1 hy, .inl ⟨v, w', by rw [e]; exact r, pc u v ▸ k⟩⟩
  · exact ⟨u, (Yl.put hsx h3 _).1 hy, .inr (.inl ⟨w', by rw [e]; exact r, pc u _ ▸ k⟩)⟩
  · obtain ⟨e0, w0, _, ⟨v0, he0, u, hy0, ht0, _⟩, _⟩ := k []
    have hy := (Yl.put hsx h3 v0).1 hy0
    refine ⟨u, hy, .inr (.inr ⟨f, args, w', by rw [e]; exact r, k.mono fun e1 w1 ⟨v, he, u', hy', ht', k⟩ => ?_⟩)⟩
    have hy'' := (Yl.put hsx h3 v).1 hy'
    have hu : u = u' := Yl.det (w := w1) (fun hw => ht' (by rw [hwx]; exact hw)) hy hy''
    subst hu
    exact ⟨v, he, pc u v ▸ k⟩

/-- **Two operations that are apart, of classes that may be exchanged.** -/
theorem comm_ok {c d : Nat} {x y : Oper} {K : Act → World → Prop} {a : Act} {w : World} (hc : commB c d = true)
    (hap : x.apart ops y = true) (hsx : ∀ cs b, x.op ≠ .select cs b) (hsy : ∀ cs b, y.op ≠ .select cs b)
    (h : wOp P ops S c x (wOp P ops S d y K) a w) : wOp P ops S d y (wOp P ops S c x K) a w := by
  obtain ⟨h1, h2, h3⟩ := Oper.apart_spec hap
  have hwx : ∀ v, Region.wanted x (yielded ops (a.put y.dst v).tmps) = Region.wanted x (yielded ops a.tmps) := fun v => wanted_put x a y.dst v h3
  have hwy : ∀ v, Region.wanted y (yielded ops (a.put x.dst v).tmps) = Region.wanted y (yielded ops a.tmps) := fun v => wanted_put y a x.dst v h1
  have pc : ∀ u v, (a.put x.dst u).put y.dst v = (a.put y.dst v).put x.dst u := fun u v => Act.put_comm a u v h2
  by_cases hyc : isY c = true
  · obtain ⟨u, hy, hT, k⟩ := yOf hyc h
    by_cases hyd : isY d = true
    · -- both values
      obtain ⟨v, hy2, hT2, k2⟩ := yOf hyd k
      refine ofY hyd ((Yl.put hsy h1 u).1 hy2) (fun hw => hT2 (by rw [hwy]; exact hw)) (ofY hyc ((Yl.put hsx h3 v).2 hy) (fun hw => hT (by rw [← hwx v]; exact hw)) ?_)
      rw [← pc]; exact k2
    · by_cases hw : Region.wanted y (yielded ops a.tmps) = true
      · -- y acts
        unfold wOp at k
        rw [if_pos (by rw [hwy]; exact hw)] at k
        unfold wOp
        rw [if_pos hw]
        have hd4 : c = 0 ∨ (c = 3 ∧ d = 4) := by
          simp [commB, isY] at hc hyd
          rcases hc with ((((hc | hc) | hc) | hc) | hc)
          · exact .inl hc
          · exact absurd hc hyd.1.1
          · obtain ⟨_, h'⟩ := hc
            rcases h' with (h' | h') | h'
            · exact absurd h' hyd.1.1
            · exact absurd h' hyd.1.2
            · exact absurd h' hyd.2
          · exact .inr hc
          · exact absurd hc.2 hyd.2
        rcases hd4 with rfl | ⟨rfl, rfl⟩
        · unfold okOp at k ⊢
          split at k
          · simp [isY] at hyd
          · simp [isY] at hyd
          · simp [isY] at hyd
          · exact (comm_ya (T := fun _ => True) hap hsx hsy hy (acts.mono k fun a w h => ⟨trivial, h⟩)).mono fun a' w' ⟨_, hy', k'⟩ => ofY (S := S) (c := 0) rfl hy' (fun _ => trivial) k'
          · refine ⟨k.1, (comm_ya (T := fun _ => True) (K := fun a' w' => S w' ∧ K a' w') hap hsx hsy hy (acts.mono k.2 fun a w h => ⟨trivial, h⟩)).mono fun a' w' ⟨_, hy', k'⟩ => ⟨k'.1, ofY (S := S) (c := 0) rfl hy' (fun _ => trivial) k'.2⟩⟩
        · simp only [okOp] at k ⊢
          exact ⟨k.1, (comm_ya (T := S) hap hsx hsy hy k.2).mono fun a' w' ⟨hs, hy', k'⟩ => ⟨hs, ofY (c := 3) rfl hy' (fun _ => hs) k'⟩⟩
      · unfold wOp at k
        rw [if_neg (by rw [hwy]; exact hw)] at k
        unfold wOp
        rw [if_neg hw]
        refine ofY hyc ((Yl.put hsx h3 _).2 hy) (fun hw' => hT (by rw [← hwx undef]; exact hw')) ?_
        rw [← pc]; exact k
  · -- x acts, y is a value
    have hd : isY d = true := by
      simp [commB, isY] at hc hyc ⊢
      rcases hc with ((((hc | hc) | hc) | hc) | hc)
      · exact absurd hc hyc.1.1
      · exact .inl (.inl hc)
      · exact hc.2
      · exact absurd hc.1 hyc.2
      · exact .inr hc.2
    have hd' : d = 0 ∨ (d = 3 ∧ c = 4) := by
      simp [commB, isY] at hc hyc
      rcases hc with ((((hc | hc) | hc) | hc) | hc)
      · exact absurd hc hyc.1.1
      · exact .inl hc
      · obtain ⟨h', _⟩ := hc
        rcases h' with (h' | h') | h'
        · exact absurd h' hyc.1.1
        · exact absurd h' hyc.1.2
        · exact absurd h' hyc.2
      · exact absurd hc.1 hyc.2
      · exact .inr ⟨hc.2, hc.1⟩
    have hap' : y.apart ops x = true := by
      unfold Oper.apart
      rw [Bool.and_eq_true]
      constructor
      · cases hy : y.dst with
        | none => rfl
        | some e =>
          simp
          exact ⟨h3 e hy, fun h' => h2 e h' hy⟩
      · cases hx : x.dst with
        | none => rfl
        | some e => simpa using h1 e hx
    by_cases hw : Region.wanted x (yielded ops a.tmps) = true
    · unfold wOp at h
      rw [if_pos hw] at h
      have key : ∀ (T : World → Prop) (K' : Act → World → Prop), (∀ a w, wOp P ops S d y K a w → ∃ u, Yl P ops T y u a ∧ (Region.wanted y (yielded ops a.tmps) = true → T w) ∧ K (a.put y.dst u) w) → acts P x (wOp P ops S d y K) a w →
          ∃ u, Yl P ops T y u a ∧ acts P x K (a.put y.dst u) w := fun T _ hh k => comm_ay (T := T) hap' hsy hsx (acts.mono k hh)
      rcases hd' with rfl | ⟨rfl, rfl⟩
      · have fin : ∀ u, Yl P ops (fun _ => True) y u a → okOp P S c x K (a.put y.dst u) w → wOp P ops S 0 y (wOp P ops S c x K) a w := fun u hu hk =>
          ofY (c := 0) rfl hu (fun _ => trivial) (by unfold wOp; rw [if_pos (by rw [hwx]; exact hw)]; exact hk)
        have hyf : isY c = false := by simpa using hyc
        rcases (okOp.act hyf).1 h with ⟨h2, h⟩ | ⟨h2, hs0, h⟩
        · obtain ⟨u, hu, hk⟩ := key (fun _ => True) K (fun a w h => yOf (S := S) (c := 0) rfl h) h
          exact fin u hu ((okOp.act hyf).2 (.inl ⟨h2, hk⟩))
        · have h' : acts P x (fun a w => ∃ u, Yl P ops (fun _ => True) y u a ∧ (Region.wanted y (yielded ops a.tmps) = true → True) ∧ (S w ∧ K (a.put y.dst u) w)) a w :=
            acts.mono h fun a w ⟨hs, k⟩ => by obtain ⟨u, a1, a2, a3⟩ := yOf (S := S) (c := 0) rfl k; exact ⟨u, a1, fun _ => trivial, hs, a3⟩
          obtain ⟨u, hu, hk⟩ := comm_ay (T := fun _ => True) (K := fun a w => S w ∧ K a w) hap' hsy hsx h'
          exact fin u hu ((okOp.act hyf).2 (.inr ⟨h2, hs0, hk⟩))
      · simp only [okOp] at h
        have h' : acts P x (fun a w => ∃ u, Yl P ops S y u a ∧ (Region.wanted y (yielded ops a.tmps) = true → S w) ∧ (S w ∧ K (a.put y.dst u) w)) a w :=
          acts.mono h.2 fun a w ⟨hs, k⟩ => by obtain ⟨u, a1, a2, a3⟩ := yOf (c := 3) rfl k; exact ⟨u, a1, fun _ => hs, hs, a3⟩
        obtain ⟨u, hu, hk⟩ := comm_ay (T := S) (K := fun a w => S w ∧ K a w) hap' hsy hsx h'
        refine ofY (c := 3) rfl hu (fun _ => h.1) ?_
        unfold wOp
        rw [if_pos (by rw [hwx]; exact hw)]
        simp only [okOp]
        exact ⟨h.1, hk⟩
    · unfold wOp at h
      rw [if_neg hw] at h
      obtain ⟨v, hv, hT, k⟩ := yOf hd h
      refine ofY hd ((Yl.put hsy h1 _).1 hv) (fun hw' => hT (by rw [hwy]; exact hw')) ?_
      unfold wOp
      rw [if_neg (by rw [hwx]; exact hw)]
      rw [← pc]; exact k

theorem wOp.some {c : Nat} {o : Oper} {K : Act → World → Prop} {a : Act} {w : World} (h : wOp P ops S c o K a w) : ∃ a' w', K a' w' := by
  have key : ∀ (K : Act → World → Prop) (a : Act) (w : World), acts P o K a w → ∃ a' w', K a' w' := by
    intro K a w h
    rcases h with ⟨u, w', _, h⟩ | ⟨w', _, h⟩ | ⟨f, args, w', _, h⟩
    · exact ⟨_, _, h⟩
    · exact ⟨_, _, h⟩
    · obtain ⟨_, _, _, ⟨_, _, h⟩, _⟩ := h []
      exact ⟨_, _, h⟩
  unfold wOp at h
  split at h
  · unfold okOp at h
    split at h
    · obtain ⟨u, _, h⟩ := h; exact ⟨_, _, h⟩
    · obtain ⟨u, _, h⟩ := h; exact ⟨_, _, h⟩
    · obtain ⟨u, _, _, h⟩ := h; exact ⟨_, _, h⟩
    · exact key _ _ _ h
    · obtain ⟨a', w', h⟩ := key _ _ _ h.2; exact ⟨a', w', h.2⟩
  · exact ⟨_, _, h⟩

/-! ### All orders -/
def clAt (cl : List Nat) (i : Nat) : Nat := cl.getD i 2
def upd (d : Nat → Bool) (i : Nat) : Nat → Bool := fun k => Nat.beq k i || d k
theorem upd_comm (d : Nat → Bool) (i j : Nat) : upd (upd d i) j = upd (upd d j) i := by
  funext k; simp only [upd]; cases Nat.beq k i <;> cases Nat.beq k j <;> cases d k <;> rfl
theorem upd_of {d : Nat → Bool} {i k : Nat} (h : d k = true) : upd d i k = true := by simp [upd, h]
theorem upd_self (d : Nat → Bool) (i : Nat) : upd d i i = true := by simp [upd]
theorem upd_ne {d : Nat → Bool} {i k : Nat} (h : k ≠ i) : upd d i k = d k := by simp [upd, h]

def edgesB (d : Nat → Bool) (o : Oper) : Bool := o.after.all fun e => !Region.binds .any e || d e.on
def rdyB (ops : Array Oper) (d : Nat → Bool) (i : Nat) : Bool :=
  match ops[i]? with
  | some o => !d i && edgesB d o
  | none => false
theorem edgesB_iff {d : Nat → Bool} {o : Oper} : edgesB d o = true ↔ ∀ e ∈ o.after, Region.binds .any e = true → d e.on = true := by
  unfold edgesB
  rw [Array.all_eq_true_iff_forall_mem]
  constructor
  · intro h e he hb
    have := h e he
    simpa [hb] using this
  · intro h e he
    cases hb : Region.binds .any e with
    | false => rfl
    | true => simp [h e he hb]
theorem rdy_iff {d : Nat → Bool} {i : Nat} : rdyB ops d i = true ↔ ∃ o, ops[i]? = some o ∧ d i = false ∧ ∀ e ∈ o.after, Region.binds .any e = true → d e.on = true := by
  unfold rdyB
  cases h : ops[i]? with
  | none => simp
  | some o => simp [edgesB_iff]

def okAny (P : Program) (ops : Array Oper) (S : World → Prop) (cl : List Nat) (Z : Act → World → Prop) : Nat → (Nat → Bool) → Act → World → Prop
  | 0, d, a, w => (∀ i, rdyB ops d i = false) ∧ Z a w
  | n + 1, d, a, w => ((∀ i, rdyB ops d i = false) → Z a w) ∧ ∀ i o, ops[i]? = some o → rdyB ops d i = true → wOp P ops S (clAt cl i) o (okAny P ops S cl Z n (upd d i)) a w

theorem getD_both' {listed : Array Bool} {i : Nat} (h : listed.getD i true = false) : listed.getD i false = false := by
  rcases Nat.lt_or_ge i listed.size with h' | h'
  · simp [h'] at h ⊢; exact h
  · simp [Array.getElem?_eq_none h'] at h
theorem okAny.wpAny {Q : Exit → Act → World → Prop} {cl : List Nat} : ∀ (n : Nat) (d : Nat → Bool) (listed : Array Bool) (a : Act) (w : World),
    listed.size = ops.size → (∀ i, listed.getD i false = d i) → okAny P ops S cl (Q .normal) n d a w → Go.wpAny P .any ops Q n listed a w := by
  intro n
  have hrd : ∀ (d : Nat → Bool) (listed : Array Bool), listed.size = ops.size → (∀ i, listed.getD i false = d i) → ∀ i, i ∈ Region.ready .any ops listed ↔ rdyB ops d i = true := by
    intro d listed hs hl i
    rw [mem_ready, rdy_iff]
    constructor
    · rintro ⟨h1, o, ho, h2⟩
      refine ⟨o, ho, ?_, fun e he hb => by rw [← hl]; exact h2 e he hb⟩
      rw [← hl]; exact getD_both' h1
    · rintro ⟨o, ho, h1, h2⟩
      have hi : i < listed.size := by rw [hs]; exact (Array.getElem?_eq_some_iff.1 ho).1
      refine ⟨?_, o, ho, fun e he hb => by rw [hl]; exact h2 e he hb⟩
      rw [← hl] at h1
      simpa [hi] using h1
  induction n with
  | zero =>
    intro d listed a w hs hl h
    refine ⟨?_, h.2⟩
    rw [List.eq_nil_iff_forall_not_mem]
    intro i hi
    have := (hrd d listed hs hl i).1 hi
    rw [h.1 i] at this
    cases this
  | succ n ih =>
    intro d listed a w hs hl h
    refine ⟨fun hn => h.1 fun i => ?_, fun i hi => ?_⟩
    · cases hr : rdyB ops d i with
      | false => rfl
      | true =>
        have := (hrd d listed hs hl i).2 hr
        rw [hn] at this
        cases this
    · have hr := (hrd d listed hs hl i).1 hi
      obtain ⟨o, ho, _, _⟩ := rdy_iff.1 hr
      refine wOp.wpOp (S := S) (c := clAt cl i) ho ((h.2 i o ho hr).mono fun a' w' h' => ih (upd d i) _ a' w' (by simpa using hs) (fun k => ?_) h')
      have hi' : i < listed.size := by rw [hs]; exact (Array.getElem?_eq_some_iff.1 ho).1
      by_cases hk : k = i
      · subst hk; simp [upd_self, hi']
      · rw [upd_ne hk, ← hl]
        simp [Array.getElem?_setIfInBounds_ne (Ne.symm hk)]

/-- The beginning of a region that draws its order. -/
theorem wp_region_ok {id : Nat} {Q : Exit → Act → World → Prop} {a : Act} {w : World} (S : World → Prop) (cl : List Nat) (hm : P.follows .mixedOrders = true)
    (h : okAny P ops S cl (Q .normal) ops.size (fun _ => false) a w.drew) : (Code.region id ops true).wp P Q a w :=
  wp_region_any hm (okAny.wpAny ops.size (fun _ => false) _ a w.drew (by simp) (fun i => by unfold Array.getD; split <;> simp) h)

def waitsB (ops : Array Oper) : Nat → Nat → Nat → Bool
  | 0, _, _ => false
  | n + 1, j, i => match ops[j]? with
    | some o => o.after.any fun e => Region.binds .any e && (Nat.beq e.on i || waitsB ops n e.on i)
    | none => false

def Closed (ops : Array Oper) (d : Nat → Bool) : Prop := ∀ j o, ops[j]? = some o → d j = true → ∀ e ∈ o.after, Region.binds .any e = true → d e.on = true

theorem waits_done {d : Nat → Bool} (hc : Closed ops d) {i : Nat} : ∀ n j, waitsB ops n j i = true → (∀ o, ops[j]? = some o → ∀ e ∈ o.after, Region.binds .any e = true → d e.on = true) → d i = true := by
  intro n
  induction n with
  | zero => intro j h; simp [waitsB] at h
  | succ n ih =>
    intro j h hd
    unfold waitsB at h
    cases ho : ops[j]? with
    | none => simp [ho] at h
    | some o =>
      simp only [ho] at h
      obtain ⟨e, he, hb⟩ := Array.any_eq_true'.1 h
      simp only [Bool.and_eq_true, Bool.or_eq_true] at hb
      have hde := hd o ho e he hb.1
      rcases hb.2 with h' | h'
      · have : e.on = i := Nat.eq_of_beq_eq_true h'
        rw [← this]; exact hde
      · exact ih e.on h' fun o' ho' => hc e.on o' ho' hde

def ok2 (ops : Array Oper) (cl : List Nat) (i j : Nat) : Bool :=
  waitsB ops ops.size j i || match ops[i]?, ops[j]? with
    | some oi, some oj => oi.apart ops oj && commB (clAt cl i) (clAt cl j)
    | _, _ => true

theorem front_aux {cl : List Nat} {Z : Act → World → Prop} {i : Nat} {oi : Oper} (hi : ops[i]? = some oi) (hsel : ∀ (j : Nat) (o : Oper) cs b, ops[j]? = some o → o.op ≠ .select cs b) :
    ∀ (n : Nat) (d : Nat → Bool) (a : Act) (w : World), Closed ops d → (∀ j oj, ops[j]? = some oj → j ≠ i → d j = false → ok2 ops cl i j = true) → rdyB ops d i = true →
      wOp P ops S (clAt cl i) oi (okAny P ops S cl Z n (upd d i)) a w → okAny P ops S cl Z (n + 1) d a w := by
  have rmono : ∀ (d : Nat → Bool) (i j : Nat), j ≠ i → rdyB ops d j = true → rdyB ops (upd d i) j = true := by
    intro d i j hji h
    obtain ⟨o, ho, h1, h2⟩ := rdy_iff.1 h
    exact rdy_iff.2 ⟨o, ho, by rw [upd_ne hji]; exact h1, fun e he hb => upd_of (h2 e he hb)⟩
  intro n
  induction n with
  | zero =>
    intro d a w _ _ hr H
    refine ⟨fun h => (by rw [h i] at hr; cases hr), fun j oj hj hrj => ?_⟩
    by_cases hji : j = i
    · subst hji
      obtain rfl := Option.some.inj (hi.symm.trans hj)
      exact H
    · obtain ⟨a', w', h', _⟩ := H.some
      have := rmono d i j hji hrj
      rw [h' j] at this
      cases this
  | succ n ih =>
    intro d a w hcl hpair hr H
    refine ⟨fun h => (by rw [h i] at hr; cases hr), fun j oj hj hrj => ?_⟩
    by_cases hji : j = i
    · subst hji
      obtain rfl := Option.some.inj (hi.symm.trans hj)
      exact H
    · obtain ⟨o', ho', hdj, hej⟩ := rdy_iff.1 hrj
      obtain rfl := Option.some.inj (hj.symm.trans ho')
      obtain ⟨oi', hoi', hdi, hei⟩ := rdy_iff.1 hr
      obtain rfl := Option.some.inj (hi.symm.trans hoi')
      have hp := hpair j oj hj hji hdj
      have hw : waitsB ops ops.size j i = false := by
        cases hwb : waitsB ops ops.size j i with
        | false => rfl
        | true =>
          have := waits_done hcl ops.size j hwb (fun o ho => by obtain rfl := Option.some.inj (hj.symm.trans ho); exact hej)
          rw [hdi] at this
          cases this
      unfold ok2 at hp
      simp only [hw, Bool.false_or, hi, hj, Bool.and_eq_true] at hp
      have h1 : wOp P ops S (clAt cl i) oi (wOp P ops S (clAt cl j) oj (okAny P ops S cl Z n (upd (upd d i) j))) a w :=
        H.mono fun a' w' h' => h'.2 j oj hj (rmono d i j hji hrj)
      have h2 := comm_ok hp.2 hp.1 (fun cs b => hsel i oi cs b hi) (fun cs b => hsel j oj cs b hj) h1
      refine h2.mono fun a' w' h' => ih (upd d j) a' w' ?_ ?_ (rmono d j i (Ne.symm hji) hr) (by rw [upd_comm]; exact h')
      · intro k ok hk hdk e he hb
        by_cases hkj : k = j
        · subst hkj
          obtain rfl := Option.some.inj (hj.symm.trans hk)
          exact upd_of (hej e he hb)
        · rw [upd_ne hkj] at hdk
          exact upd_of (hcl k ok hk hdk e he hb)
      · intro k ok hk hki hdk
        by_cases hkj : k = j
        · subst hkj; rw [upd_self] at hdk; cases hdk
        · rw [upd_ne hkj] at hdk
          exact hpair k ok hk hki hdk

def closedB (ops : Array Oper) (d : Nat → Bool) : Bool := (List.range ops.size).all fun j => !d j || match ops[j]? with | some o => edgesB d o | none => true
def selB (ops : Array Oper) : Bool := ops.all fun o => match o.op with | .select .. => false | _ => true
/-- May number i be taken next, whatever order is drawn? -/
def chkB (ops : Array Oper) (cl : List Nat) (d : Nat → Bool) (i : Nat) : Bool :=
  closedB ops d && selB ops && rdyB ops d i && (List.range ops.size).all fun j => Nat.beq j i || d j || ok2 ops cl i j

theorem selB_spec (h : selB ops = true) : ∀ (j : Nat) (o : Oper) cs b, ops[j]? = some o → o.op ≠ .select cs b := by
  intro j o cs b hj he
  unfold selB at h
  have := (Array.all_eq_true_iff_forall_mem.1 h) o (Array.mem_of_getElem? hj)
  rw [he] at this
  cases this

/-- **Number i is taken next.** -/
theorem front {cl : List Nat} {Z : Act → World → Prop} {n : Nat} {d : Nat → Bool} {a : Act} {w : World} (i : Nat) {oi : Oper} (hi : ops[i]? = some oi) (hchk : chkB ops cl d i = true)
    (h : wOp P ops S (clAt cl i) oi (okAny P ops S cl Z n (upd d i)) a w) : okAny P ops S cl Z (n + 1) d a w := by
  unfold chkB at hchk
  simp only [Bool.and_eq_true] at hchk
  obtain ⟨⟨⟨h1, h2⟩, h3⟩, h4⟩ := hchk
  refine front_aux hi (selB_spec h2) n d a w ?_ ?_ h3 h
  · intro j o hj hd e he hb
    have := List.all_eq_true.1 h1 j (List.mem_range.2 (Array.getElem?_eq_some_iff.1 hj).1)
    rw [hd] at this
    simp only [hj] at this
    exact edgesB_iff.1 (by simpa using this) e he hb
  · intro j oj hj hji hdj
    have := List.all_eq_true.1 h4 j (List.mem_range.2 (Array.getElem?_eq_some_iff.1 hj).1)
    have hb : Nat.beq j i = false := by
      cases hb : Nat.beq j i with
      | false => rfl
      | true => exact absurd (Nat.eq_of_beq_eq_true hb) hji
    rw [hb, hdj] at this
    simpa using this

/-- Whichever of these comes next. -/
theorem branch {cl : List Nat} {Z : Act → World → Prop} {n : Nat} {d : Nat → Bool} {a : Act} {w : World} (is : List Nat)
    (hchk : ((List.range ops.size).all fun j => !rdyB ops d j || is.contains j) = true) (hne : (is.any (rdyB ops d)) = true)
    (h : ∀ i ∈ is, ∀ o, ops[i]? = some o → wOp P ops S (clAt cl i) o (okAny P ops S cl Z n (upd d i)) a w) : okAny P ops S cl Z (n + 1) d a w := by
  refine ⟨fun h0 => ?_, fun i o ho hr => h i ?_ o ho⟩
  · obtain ⟨i, _, hi⟩ := List.any_eq_true.1 hne
    rw [h0 i] at hi
    cases hi
  · have := List.all_eq_true.1 hchk i (List.mem_range.2 (Array.getElem?_eq_some_iff.1 ho).1)
    rw [hr] at this
    simpa using this

/-- One of these two comes next. -/
theorem branch2 {cl : List Nat} {Z : Act → World → Prop} {n : Nat} {d : Nat → Bool} {a : Act} {w : World} (i j : Nat) {oi oj : Oper} (hi : ops[i]? = some oi) (hj : ops[j]? = some oj)
    (hchk : ((List.range ops.size).all fun k => !rdyB ops d k || [i, j].contains k) = true) (hne : ([i, j].any (rdyB ops d)) = true)
    (h1 : wOp P ops S (clAt cl i) oi (okAny P ops S cl Z n (upd d i)) a w) (h2 : wOp P ops S (clAt cl j) oj (okAny P ops S cl Z n (upd d j)) a w) : okAny P ops S cl Z (n + 1) d a w :=
  branch [i, j] hchk hne fun k hk o ho => by
    simp at hk
    rcases hk with rfl | rfl
    · obtain rfl := Option.some.inj (hi.symm.trans ho); exact h1
    · obtain rfl := Option.some.inj (hj.symm.trans ho); exact h2

/-- All have come. -/
theorem okDone {cl : List Nat} {Z : Act → World → Prop} {d : Nat → Bool} {a : Act} {w : World} (hd : ((List.range ops.size).all fun j => !rdyB ops d j) = true) (h : Z a w) : ∀ n, okAny P ops S cl Z n d a w := by
  have hn : ∀ i, rdyB ops d i = false := by
    intro i
    cases hr : rdyB ops d i with
    | false => rfl
    | true =>
      obtain ⟨o, ho, _, _⟩ := rdy_iff.1 hr
      have := List.all_eq_true.1 hd i (List.mem_range.2 (Array.getElem?_eq_some_iff.1 ho).1)
      rw [hr] at this
      cases this
  intro n
  cases n with
  | zero => exact ⟨hn, h⟩
  | succ n => exact ⟨fun _ => h, fun i o _ hr => by rw [hn i] at hr; cases hr⟩
theorem okFin {cl : List Nat} {Q : Exit → Act → World → Prop} {n : Nat} {d : Nat → Bool} {a : Act} {w : World} (hd : ((List.range ops.size).all fun j => !rdyB ops d j) = true) (h : Q .normal a w) : okAny P ops S cl (Q .normal) n d a w := okDone hd h n
end
end Go.Proofs.YtidfbboalbchiaaDoor

namespace Go.Proofs.YtidfbboalbchiaaDoor
open Go Go.RowKit

/-! ### The frame -/
abbrev Fm := List (Nat × Value)
/-- What slot n holds, as far as it is known. -/
def lk : Fm → Nat → Option Value
  | [], _ => none
  | (k, v) :: r, n => bif Nat.beq k n then some v else lk r n

structure Kn (a : Act) (N : Nat) (L : Fm) : Prop where
  df : a.defers = []
  sz : a.tmps.size = N
  ev : ∀ k v, lk L k = some v → a.tmps.getD k undef = v

theorem lk_cons {L : Fm} {d k : Nat} {v u : Value} (h : lk ((d, v) :: L) k = some u) : (k = d ∧ u = v) ∨ (k ≠ d ∧ lk L k = some u) := by
  unfold lk at h
  cases hb : Nat.beq d k with
  | true => rw [hb] at h; simp at h; exact .inl ⟨(Nat.eq_of_beq_eq_true hb).symm, h.symm⟩
  | false =>
    rw [hb] at h
    exact .inr ⟨fun e => (by rw [e] at hb; simp at hb), by simpa using h⟩

theorem Kn.put {a : Act} {N : Nat} {L : Fm} (hk : Kn a N L) {d : Nat} (v : Value) (hd : Nat.blt d N = true) : Kn (a.put (some d) v) N ((d, v) :: L) := by
  have hlt : d < a.tmps.size := by rw [hk.sz]; exact (Nat.blt_eq ▸ hd : d < N)
  refine ⟨hk.df, by simp [Act.put, hk.sz], fun k u h => ?_⟩
  rcases lk_cons h with ⟨rfl, rfl⟩ | ⟨hne, h⟩
  · simp [Act.put, hlt]
  · have := hk.ev k u h
    simp only [Act.put, Array.getD_eq_getD_getElem?] at this ⊢
    rw [Array.getElem?_setIfInBounds_ne (Ne.symm hne)]
    exact this

def Subs (L : Fm) : Fm → Prop
  | [] => True
  | (k, v) :: r => lk L k = some v ∧ Subs L r
theorem Subs.lk {L L' : Fm} (h : Subs L L') {k : Nat} {v : Value} (hv : lk L' k = some v) : lk L k = some v := by
  induction L' with
  | nil => simp [YtidfbboalbchiaaDoor.lk] at hv
  | cons p r ih =>
    obtain ⟨d, u⟩ := p
    rcases lk_cons hv with ⟨rfl, rfl⟩ | ⟨_, hv⟩
    · exact h.1
    · exact ih h.2 hv
/-- Forget all but these. -/
theorem Kn.sub {a : Act} {N : Nat} {L : Fm} (hk : Kn a N L) (L' : Fm) (h : Subs L L') : Kn a N L' := ⟨hk.df, hk.sz, fun _ _ hv => hk.ev _ _ (h.lk hv)⟩

/-- The operand's value, as far as it is known. -/
def ov (L : Fm) : Operand → Option Value
  | .tmp t => lk L t
  | .const v => some v
  | .global g => some (.pointer (some ⟨g, 0, none⟩))
  | .func f => some (.func (.func f) #[] #[])
theorem Kn.op {a : Act} {N : Nat} {L : Fm} (hk : Kn a N L) {x : Operand} {v : Value} (h : ov L x = some v) : a.eval x = v := by
  cases x <;> simp only [ov] at h
  · exact hk.ev _ _ h
  all_goals (cases h; rfl)
def ovs (L : Fm) : List Operand → Option (List Value)
  | [] => some []
  | x :: r => match ov L x, ovs L r with
    | some v, some vs => some (v :: vs)
    | _, _ => none
theorem Kn.ops {a : Act} {N : Nat} {L : Fm} (hk : Kn a N L) {xs : List Operand} {vs : List Value} (h : ovs L xs = some vs) : xs.map a.eval = vs := by
  induction xs generalizing vs with
  | nil => simp [ovs] at h; simp [h]
  | cons x r ih =>
    unfold ovs at h
    split at h
    · rename_i v vs' hv hvs
      cases h
      simp [hk.op hv, ih hvs]
    · cases h

/-- The answer of the operation on which a guard hangs. -/
def yl (ops : Array Oper) (L : Fm) (j : Nat) : Option (Option Bool) :=
  match (ops[j]?).bind (·.dst) with
  | some d => match lk L d with
    | some (.bool b) => some (some b)
    | some (.tuple _) => some none
    | _ => none
  | none => none
theorem Kn.yl {a : Act} {N : Nat} {L : Fm} (hk : Kn a N L) {ops : Array Oper} {j : Nat} {r : Option Bool} (h : yl ops L j = some r) : yielded ops a.tmps j = r := by
  unfold YtidfbboalbchiaaDoor.yl at h
  unfold yielded
  cases hd : (ops[j]?).bind (·.dst) with
  | none => simp [hd] at h
  | some d =>
    simp only [hd] at h
    simp only [Option.bind_some]
    cases hl : lk L d with
    | none => simp [hl] at h
    | some v =>
      have he := hk.ev d v hl
      simp only [Array.getD_eq_getD_getElem?] at he
      simp only [hl] at h
      cases hg : a.tmps[d]? with
      | none =>
        rw [hg] at he
        simp [undef] at he
        subst he
        simpa using h
      | some u =>
        rw [hg] at he
        simp at he
        subst he
        cases u <;> simp_all
/-- Is the operation carried out? -/
def wt (ops : Array Oper) (L : Fm) (o : Oper) : Option Bool :=
  match o.guard with
  | none => some true
  | some (j, want) => match yl ops L j with
    | some (some b) => some (b == want)
    | some none => some false
    | none => none
theorem Kn.wt {a : Act} {N : Nat} {L : Fm} (hk : Kn a N L) {ops : Array Oper} {o : Oper} {b : Bool} (h : wt ops L o = some b) : Region.wanted o (yielded ops a.tmps) = b := by
  unfold YtidfbboalbchiaaDoor.wt at h
  unfold Region.wanted
  cases hg : o.guard with
  | none => simp [hg] at h; simp [h]
  | some p =>
    obtain ⟨j, want⟩ := p
    simp only [hg] at h
    cases hy : YtidfbboalbchiaaDoor.yl ops L j with
    | none => simp [hy] at h
    | some r =>
      have := hk.yl hy
      simp only [this]
      cases r with
      | none => simp [hy] at h; simp [h]
      | some c => simp [hy] at h; simp [← h]

/-! ### A step -/
def Ev (P : Program) (o : Oper) (a : Act) (w : World) (v : Value) : Prop := (execOp a.eval o).run P w = .ok (.value v) w
def Ef (P : Program) (o : Oper) (a : Act) (w : World) (v : Value) (w' : World) : Prop := (execOp a.eval o).run P w = .ok (.value v) w'
def Es (P : Program) (o : Oper) (a : Act) (w : World) (w' : World) : Prop := (execOp a.eval o).run P w = .ok .skip w'
def Ec (P : Program) (o : Oper) (a : Act) (f : FuncId) (args : Array Value) : Prop := ∀ w, (execOp a.eval o).run P w = .ok (.enter f args) w

section
variable {P : Program} {ops : Array Oper} {Q : Exit → Act → World → Prop} {rest : List Oper} {o : Oper} {a : Act} {w w' : World} {N d : Nat} {L : Fm} {v : Value}

theorem ls (hk : Kn a N L) (hw : wt ops L o = some true) (hd : o.dst = some d) (hN : Nat.blt d N = true) (h : Ev P o a w v)
    (K : ∀ a', Kn a' N ((d, v) :: L) → wpList P ops Q rest a' w) : wpList P ops Q (o :: rest) a w := by
  unfold wpList
  rw [if_pos (hk.wt hw)]
  refine .inl ?_
  unfold Oper.wp
  rw [h, Oper.upon_value, hd]
  exact K _ (hk.put v hN)

theorem lf (hk : Kn a N L) (hw : wt ops L o = some true) (hd : o.dst = some d) (hN : Nat.blt d N = true) (h : Ef P o a w v w')
    (K : ∀ a', Kn a' N ((d, v) :: L) → wpList P ops Q rest a' w') : wpList P ops Q (o :: rest) a w := by
  unfold wpList
  rw [if_pos (hk.wt hw)]
  refine .inl ?_
  unfold Oper.wp
  rw [h, Oper.upon_value, hd]
  exact K _ (hk.put v hN)

/-- A value that is not kept. -/
theorem lf0 (hk : Kn a N L) (hw : wt ops L o = some true) (hd : o.dst = none) (h : Ef P o a w v w')
    (K : ∀ a', Kn a' N L → wpList P ops Q rest a' w') : wpList P ops Q (o :: rest) a w := by
  unfold wpList
  rw [if_pos (hk.wt hw)]
  refine .inl ?_
  unfold Oper.wp
  rw [h, Oper.upon_value, hd]
  exact K _ hk

theorem lst (hk : Kn a N L) (hw : wt ops L o = some true) (hd : o.dst = none) (h : Es P o a w w')
    (K : ∀ a', Kn a' N L → wpList P ops Q rest a' w') : wpList P ops Q (o :: rest) a w := by
  unfold wpList
  rw [if_pos (hk.wt hw)]
  refine .inl ?_
  unfold Oper.wp
  rw [h, Oper.upon_skip, hd]
  exact K _ hk

/-- It is not carried out. -/
theorem lno (hk : Kn a N L) (hw : wt ops L o = some false) (hd : o.dst = some d) (hN : Nat.blt d N = true)
    (K : ∀ a', Kn a' N ((d, undef) :: L) → wpList P ops Q rest a' w) : wpList P ops Q (o :: rest) a w := by
  unfold wpList
  rw [if_neg (by rw [hk.wt hw]; simp), hd]
  exact K _ (hk.put undef hN)

theorem lc {f : FuncId} {args : Array Value} {R : Ending → World → Prop} (hk : Kn a N L) (hw : wt ops L o = some true) (hd : o.dst = some d) (hN : Nat.blt d N = true) (h : Ec P o a f args) (hc : Calls P f args w R)
    (K : ∀ e w', R e w' → ∃ v, e = .returned v ∧ ∀ a', Kn a' N ((d, v) :: L) → wpList P ops Q rest a' w') : wpList P ops Q (o :: rest) a w := by
  unfold wpList
  rw [if_pos (hk.wt hw)]
  refine .inl ?_
  unfold Oper.wp
  rw [h w, Oper.upon_enter, hd]
  refine hc.mono fun e w' hR => ?_
  obtain ⟨v, rfl, hv⟩ := K e w' hR
  exact hv _ (hk.put v hN)

theorem lnil (h : Q .normal a w) : wpList P ops Q [] a w := h
end

/-! ### A step of a region that draws its order -/
section
variable {P : Program} {ops : Array Oper} {S : World → Prop} {cl : List Nat} {Z : Act → World → Prop} {n : Nat} {dn : Nat → Bool} {oi : Oper} {a : Act} {w w' : World} {N d : Nat} {L : Fm} {v : Value}

/-- A value, in whatever world. -/
theorem d0 (i : Nat) (hk : Kn a N L) (hi : ops[i]? = some oi) (hc : chkB ops cl dn i = true) (hcl : clAt cl i = 0) (hw : wt ops L oi = some true) (hd : oi.dst = some d) (hN : Nat.blt d N = true) (h : ∀ w, Ev P oi a w v)
    (K : ∀ a', Kn a' N ((d, v) :: L) → okAny P ops S cl Z n (upd dn i) a' w) : okAny P ops S cl Z (n + 1) dn a w := by
  refine front i hi hc ?_
  unfold wOp
  rw [if_pos (hk.wt hw), hcl]
  exact ⟨v, h, by rw [hd]; exact K _ (hk.put v hN)⟩
/-- A value, in this world. -/
theorem d1 (i : Nat) (hk : Kn a N L) (hi : ops[i]? = some oi) (hc : chkB ops cl dn i = true) (hcl : clAt cl i = 1) (hw : wt ops L oi = some true) (hd : oi.dst = some d) (hN : Nat.blt d N = true) (h : Ev P oi a w v)
    (K : ∀ a', Kn a' N ((d, v) :: L) → okAny P ops S cl Z n (upd dn i) a' w) : okAny P ops S cl Z (n + 1) dn a w := by
  refine front i hi hc ?_
  unfold wOp
  rw [if_pos (hk.wt hw), hcl]
  exact ⟨v, h, by rw [hd]; exact K _ (hk.put v hN)⟩
/-- A value, in every world that meets S. -/
theorem d3 (i : Nat) (hk : Kn a N L) (hi : ops[i]? = some oi) (hc : chkB ops cl dn i = true) (hcl : clAt cl i = 3) (hw : wt ops L oi = some true) (hd : oi.dst = some d) (hN : Nat.blt d N = true) (hS : S w) (h : ∀ w, S w → Ev P oi a w v)
    (K : ∀ a', Kn a' N ((d, v) :: L) → okAny P ops S cl Z n (upd dn i) a' w) : okAny P ops S cl Z (n + 1) dn a w := by
  refine front i hi hc ?_
  unfold wOp
  rw [if_pos (hk.wt hw), hcl]
  exact ⟨v, h, hS, by rw [hd]; exact K _ (hk.put v hN)⟩
/-- It acts. -/
theorem d2 (i : Nat) (hk : Kn a N L) (hi : ops[i]? = some oi) (hc : chkB ops cl dn i = true) (hcl : clAt cl i = 2) (hw : wt ops L oi = some true) (hd : oi.dst = some d) (hN : Nat.blt d N = true) (h : Ef P oi a w v w')
    (K : ∀ a', Kn a' N ((d, v) :: L) → okAny P ops S cl Z n (upd dn i) a' w') : okAny P ops S cl Z (n + 1) dn a w := by
  refine front i hi hc ?_
  unfold wOp
  rw [if_pos (hk.wt hw), hcl]
  exact .inl ⟨v, w', h, by rw [hd]; exact K _ (hk.put v hN)⟩
/-- It acts, and S is kept. -/
theorem d4 (i : Nat) (hk : Kn a N L) (hi : ops[i]? = some oi) (hc : chkB ops cl dn i = true) (hcl : clAt cl i = 4) (hw : wt ops L oi = some true) (hd : oi.dst = some d) (hN : Nat.blt d N = true) (hS : S w) (h : Ef P oi a w v w') (hS' : S w')
    (K : ∀ a', Kn a' N ((d, v) :: L) → okAny P ops S cl Z n (upd dn i) a' w') : okAny P ops S cl Z (n + 1) dn a w := by
  refine front i hi hc ?_
  unfold wOp
  rw [if_pos (hk.wt hw), hcl]
  exact ⟨hS, .inl ⟨v, w', h, hS', by rw [hd]; exact K _ (hk.put v hN)⟩⟩
/-- A store. -/
theorem d2s (i : Nat) (hk : Kn a N L) (hi : ops[i]? = some oi) (hc : chkB ops cl dn i = true) (hcl : clAt cl i = 2) (hw : wt ops L oi = some true) (hd : oi.dst = none) (h : Es P oi a w w')
    (K : ∀ a', Kn a' N L → okAny P ops S cl Z n (upd dn i) a' w') : okAny P ops S cl Z (n + 1) dn a w := by
  refine front i hi hc ?_
  unfold wOp
  rw [if_pos (hk.wt hw), hcl]
  exact .inr (.inl ⟨w', h, by rw [hd]; exact K _ hk⟩)
/-- A store, and S is kept. -/
theorem d4s (i : Nat) (hk : Kn a N L) (hi : ops[i]? = some oi) (hc : chkB ops cl dn i = true) (hcl : clAt cl i = 4) (hw : wt ops L oi = some true) (hd : oi.dst = none) (hS : S w) (h : Es P oi a w w') (hS' : S w')
    (K : ∀ a', Kn a' N L → okAny P ops S cl Z n (upd dn i) a' w') : okAny P ops S cl Z (n + 1) dn a w := by
  refine front i hi hc ?_
  unfold wOp
  rw [if_pos (hk.wt hw), hcl]
  exact ⟨hS, .inr (.inl ⟨w', h, hS', by rw [hd]; exact K _ hk⟩)⟩
/-- A call. -/
theorem d2c {f : FuncId} {args : Array Value} {R : Ending → World → Prop} (i : Nat) (hk : Kn a N L) (hi : ops[i]? = some oi) (hc : chkB ops cl dn i = true) (hcl : clAt cl i = 2) (hw : wt ops L oi = some true) (hd : oi.dst = some d) (hN : Nat.blt d N = true) (h : Ec P oi a f args) (hcal : Calls P f args w R)
    (K : ∀ e w', R e w' → ∃ v, e = .returned v ∧ ∀ a', Kn a' N ((d, v) :: L) → okAny P ops S cl Z n (upd dn i) a' w') : okAny P ops S cl Z (n + 1) dn a w := by
  refine front i hi hc ?_
  unfold wOp
  rw [if_pos (hk.wt hw), hcl]
  refine .inr (.inr ⟨f, args, w, h w, hcal.mono fun e w' hR => ?_⟩)
  obtain ⟨v, rfl, hv⟩ := K e w' hR
  exact ⟨v, rfl, by rw [hd]; exact hv _ (hk.put v hN)⟩
/-- A call, and S is kept. -/
theorem d4c {f : FuncId} {args : Array Value} {R : Ending → World → Prop} (i : Nat) (hk : Kn a N L) (hi : ops[i]? = some oi) (hc : chkB ops cl dn i = true) (hcl : clAt cl i = 4) (hw : wt ops L oi = some true) (hd : oi.dst = some d) (hN : Nat.blt d N = true) (hS : S w) (h : Ec P oi a f args) (hcal : Calls P f args w R)
    (K : ∀ e w', R e w' → ∃ v, e = .returned v ∧ S w' ∧ ∀ a', Kn a' N ((d, v) :: L) → okAny P ops S cl Z n (upd dn i) a' w') : okAny P ops S cl Z (n + 1) dn a w := by
  refine front i hi hc ?_
  unfold wOp
  rw [if_pos (hk.wt hw), hcl]
  refine ⟨hS, .inr (.inr ⟨f, args, w, h w, hcal.mono fun e w' hR => ?_⟩)⟩
  obtain ⟨v, rfl, hS', hv⟩ := K e w' hR
  exact ⟨v, rfl, hS', by rw [hd]; exact hv _ (hk.put v hN)⟩
/-- It is not carried out. -/
theorem dno (i : Nat) (hk : Kn a N L) (hi : ops[i]? = some oi) (hc : chkB ops cl dn i = true) (hw : wt ops L oi = some false) (hd : oi.dst = some d) (hN : Nat.blt d N = true)
    (K : ∀ a', Kn a' N ((d, undef) :: L) → okAny P ops S cl Z n (upd dn i) a' w) : okAny P ops S cl Z (n + 1) dn a w := by
  refine front i hi hc ?_
  unfold wOp
  rw [if_neg (by rw [hk.wt hw]; simp), hd]
  exact K _ (hk.put undef hN)
end

/-! ### Control -/
section
variable {P : Program} {Q : Exit → Act → World → Prop} {a : Act} {w : World} {N : Nat} {L : Fm}

/-- A call of a function begins: its parameters are known. -/
theorem enter {f : FuncId} {fn : Func} {c : Code} {args : List Value} {R : Ending → World → Prop} (N : Nat) (L : Fm) (hf : P.funcs[f]? = some fn) (hb : fn.body = some c) (hn : fn.ntmps = N) (hle : Nat.ble args.length N = true)
    (hL : ∀ k v, lk L k = some v → args[k]? = some v)
    (h : ∀ a, Kn a N L → c.wp P (bodyPost P fn R) a w) : Calls P f args.toArray w R := by
  refine calls_of_wp hf hb (h _ ⟨rfl, ?_, fun k v hv => ?_⟩)
  · have := Nat.le_of_ble_eq_true hle
    simp [hn]; omega
  · have := hL k v hv
    have hlt : k < args.length := (List.getElem?_eq_some_iff.1 this).1
    have e : args[k] = v := by simpa [hlt] using this
    simp [Array.getElem?_append, hlt, e]

/-- The parameters, numbered. -/
def ps : Nat → List Value → Fm
  | _, [] => []
  | i, v :: r => (i, v) :: ps (i + 1) r
theorem lk_ps : ∀ (l : List Value) (i k : Nat) (v : Value), lk (ps i l) k = some v → ∃ j, k = i + j ∧ l[j]? = some v := by
  intro l
  induction l with
  | nil => intro i k v h; simp [ps, lk] at h
  | cons x r ih =>
    intro i k v h
    rcases lk_cons h with ⟨rfl, rfl⟩ | ⟨_, h⟩
    · exact ⟨0, rfl, rfl⟩
    · obtain ⟨j, rfl, hj⟩ := ih (i + 1) k v h
      exact ⟨j + 1, by omega, hj⟩
theorem start {f : FuncId} {fn : Func} {c : Code} {args : List Value} {R : Ending → World → Prop} (N : Nat) (hf : P.funcs[f]? = some fn) (hb : fn.body = some c) (hn : fn.ntmps = N) (hle : Nat.ble args.length N = true)
    (h : ∀ a, Kn a N (ps 0 args) → c.wp P (bodyPost P fn R) a w) : Calls P f args.toArray w R :=
  enter N (ps 0 args) hf hb hn hle (fun k v hv => by obtain ⟨j, rfl, hj⟩ := lk_ps args 0 k v hv; simpa using hj) h

theorem cdT {x : Operand} {t e : Code} (hk : Kn a N L) (hx : ov L x = some (.bool true)) (h : t.wp P Q a w) : (Code.cond x t e).wp P Q a w := wp_cond_true (hk.op hx) h
theorem cdF {x : Operand} {t e : Code} (hk : Kn a N L) (hx : ov L x = some (.bool false)) (h : e.wp P Q a w) : (Code.cond x t e).wp P Q a w := wp_cond_false (hk.op hx) h
theorem cdB {x : Operand} {t e : Code} {b : Bool} (hk : Kn a N L) (hx : ov L x = some (.bool b)) (ht : b = true → t.wp P Q a w) (hf : b = false → e.wp P Q a w) : (Code.cond x t e).wp P Q a w := wp_cond_split (hk.op hx) ht hf

/-- A loop, with a number that goes down. -/
theorem loopN {c : Code} (J : Nat → Act → World → Prop) (n0 : Nat) (h0 : J n0 a w)
    (round : ∀ n a w, J n a w → c.wp P (Exit.then (fun a' w' => ∃ m, m < n ∧ J m a' w') Q) a w) : (Code.loop c).wp P Q a w := by
  intro b k cs
  have key : ∀ n a w, J n a w → ∃ e a' w', Q e a' w' ∧ Arrives P (lone (b.at a (.code c :: .inLoop c :: k)) cs w) b k cs e a' w' := by
    intro n
    induction n using Nat.strongRecOn with
    | _ n ih =>
      intro a w hI
      obtain ⟨e, a₁, w₁, hq, harr⟩ := round n a w hI b (.inLoop c :: k) cs
      cases e with
      | normal =>
        obtain ⟨m, hlt, hI₁⟩ := hq
        obtain ⟨e₂, a₂, w₂, hq₂, harr₂⟩ := ih m hlt a₁ w₁ hI₁
        exact ⟨e₂, a₂, w₂, hq₂, .of_steps (Steps.trans harr (.one step_inLoop)) harr₂⟩
      | exit id => exact ⟨_, a₁, w₁, hq, .pass (x := .inLoop c) rfl (fun _ _ => .inl (by simp)) harr⟩
      | goto l => exact ⟨_, a₁, w₁, hq, .pass (x := .inLoop c) rfl (fun _ _ => .inl (by simp)) harr⟩
      | ret => exact ⟨_, a₁, w₁, hq, .pass (x := .inLoop c) rfl (fun _ _ => .inl (by simp)) harr⟩
      | panic ch => exact ⟨_, a₁, w₁, hq, .pass (x := .inLoop c) rfl (fun _ _ => .inl (by simp)) harr⟩
      | outgrown => exact ⟨_, a₁, w₁, hq, .pass (x := .inLoop c) rfl (fun _ _ => .inl (by simp)) harr⟩
  obtain ⟨e, a', w', hq, harr⟩ := key n0 a w h0
  exact ⟨e, a', w', hq, .of_steps (.one step_loop) harr⟩
theorem nx {f : Act → World → Prop} {a : Act} {w : World} (h : f a w) : Exit.then f Q .normal a w := h

/-- One result in a slot. -/
theorem ret1 {fn : Func} {t : Tmp} {R : Ending → World → Prop} {v : Value} (hk : Kn a N L) (hr : fn.results = #[.tmp t]) (hv : lk L t = some v) (h : R (.returned v) w) : bodyPost P fn R .ret a w :=
  bodyPost_ret (by rw [results_tmp hr, hk.ev _ _ hv]) hk.df h
theorem ret1n {fn : Func} {t : Tmp} {R : Ending → World → Prop} {v : Value} (hk : Kn a N L) (hr : fn.results = #[.tmp t]) (hv : lk L t = some v) (h : R (.returned v) w) : bodyPost P fn R .normal a w :=
  bodyPost_end (by rw [results_tmp hr, hk.ev _ _ hv]) hk.df h
theorem ret2 {fn : Func} {t u : Tmp} {R : Ending → World → Prop} {v v' : Value} (hk : Kn a N L) (hr : fn.results = #[.tmp t, .tmp u]) (hv : lk L t = some v) (hv' : lk L u = some v') (h : R (.returned (.tuple #[v, v'])) w) : bodyPost P fn R .ret a w :=
  bodyPost_ret (by rw [results_tmp2 hr, hk.ev _ _ hv, hk.ev _ _ hv']) hk.df h
/-- No result. -/
theorem ret0n {fn : Func} {R : Ending → World → Prop} (hk : Kn a N L) (hr : fn.results = #[]) (h : R (.returned (.tuple #[])) w) : bodyPost P fn R .normal a w :=
  bodyPost_end (results_none hr _ _ _) hk.df h
/-- One result, an array or a struct, in a variable. -/
theorem retA {fn : Func} {p : Tmp} {ty : TypeId} {R : Ending → World → Prop} {g : Nat} {t : TypeId} {cs : Array Value} {fr : Nat × Nat} {d : TypeDesc} (hk : Kn a N L) (hr : fn.results = #[.cell p ty]) (hv : lk L p = some (.pointer (some ⟨g, 0, none⟩)))
    (hg : w.heap[g]? = some (.cells cs t fr)) (hu : P.underlying ty = some d) (hd : (match d with | .struct _ | .array _ _ => true | _ => false) = true) (hi : (P.info? ty).map (·.size) = some cs.size)
    (h : R (.returned (.agg cs)) w) : bodyPost P fn R .ret a w :=
  bodyPost_ret (results_cell_row hr a.tmps w g t cs fr d (hk.ev _ _ hv) hg hu hd hi) hk.df h
/-- Two results, the first one an array or a struct in a variable. -/
theorem retA1 {fn : Func} {p u : Tmp} {ty : TypeId} {R : Ending → World → Prop} {g : Nat} {t : TypeId} {cs : Array Value} {fr : Nat × Nat} {d : TypeDesc} {v' : Value} (hk : Kn a N L) (hr : fn.results = #[.cell p ty, .tmp u]) (hv : lk L p = some (.pointer (some ⟨g, 0, none⟩))) (hv' : lk L u = some v')
    (hg : w.heap[g]? = some (.cells cs t fr)) (hu : P.underlying ty = some d) (hd : (match d with | .struct _ | .array _ _ => true | _ => false) = true) (hi : (P.info? ty).map (·.size) = some cs.size)
    (h : R (.returned (.tuple #[.agg cs, v'])) w) : bodyPost P fn R .ret a w := by
  refine bodyPost_ret ?_ hk.df h
  have h1 := hk.ev _ _ hv
  have h2 := hk.ev _ _ hv'
  have h1' : a.tmps[p]?.getD undef = .pointer (some ⟨g, 0, none⟩) := by simpa using h1
  have h2' : a.tmps[u]?.getD undef = v' := by simpa using h2
  simp [results, hr, h1', h2', asAddr, run_loadVar_row w g t ty cs fr d hg hu hd hi]
end
end Go.Proofs.YtidfbboalbchiaaDoor

namespace Go.Proofs.YtidfbboalbchiaaDoor
open Go Go.RowKit

abbrev W (x : UInt32) : Value := .int .u32 (x.toNat : Int)
abbrev B (x : UInt8) : Value := .int .u8 (x.toNat : Int)
abbrev U (x : UInt64) : Value := .int .u64 (x.toNat : Int)
abbrev I (n : Int) : Value := .int .i64 n
abbrev Str (l : List UInt8) : Value := .string ⟨l.toArray⟩

section
variable {P : Program} {a : Act} {w : World} {N : Nat} {L : Fm} {dst : Option Tmp} {ty : TypeId} {pos : String} {af : Array Edge} {g : Option (Nat × Bool)} {v r : Value} {x y z : Operand}

theorem e_move (hk : Kn a N L) (hx : ov L x = some v) (w : World) : Ev P ⟨dst, .move x, ty, pos, af, g⟩ a w v := by
  simp [Ev, execOp, hk.op hx, pure]
theorem e_assign (hk : Kn a N L) (hx : ov L x = some v) (w : World) : Ev P ⟨dst, .assign x, ty, pos, af, g⟩ a w v := by
  simp [Ev, execOp, hk.op hx, pure]
theorem e_pickT (hk : Kn a N L) (hx : ov L x = some (.bool true)) (hy : ov L y = some v) (w : World) : Ev P ⟨dst, .pick x y z, ty, pos, af, g⟩ a w v := by
  simp [Ev, execOp, hk.op hx, hk.op hy, asBool]
theorem e_pickF (hk : Kn a N L) (hx : ov L x = some (.bool false)) (hz : ov L z = some v) (w : World) : Ev P ⟨dst, .pick x y z, ty, pos, af, g⟩ a w v := by
  simp [Ev, execOp, hk.op hx, hk.op hz, asBool]
theorem e_nil (hk : Kn a N L) {ad : Addr} (hx : ov L x = some (.pointer (some ad))) (w : World) : Ev P ⟨dst, .nilCheck x, ty, pos, af, g⟩ a w (.pointer (some ad)) := by
  simp [Ev, execOp, hk.op hx, pure]
theorem e_nilf (hk : Kn a N L) {f : FuncId} {u c : Array Value} (hx : ov L x = some (.func (.func f) u c)) (w : World) : Ev P ⟨dst, .nilCheck x, ty, pos, af, g⟩ a w (.func (.func f) u c) := by
  simp [Ev, execOp, hk.op hx, pure]

variable {k k' : IntKind} {m n q : Int} {t t' : TypeId} {b : Bool}
theorem e_add (hk : Kn a N L) (hx : ov L x = some (.int k m)) (hy : ov L y = some (.int k n)) (hr : k.wrap (m + n) = q) (w : World) : Ev P ⟨dst, .binOp .add t x y t', ty, pos, af, g⟩ a w (.int k q) := by
  simp [Ev, execOp, hk.op hx, hk.op hy, eqGuard, binOp, Op.intArith, hr]
theorem e_sub (hk : Kn a N L) (hx : ov L x = some (.int k m)) (hy : ov L y = some (.int k n)) (hr : k.wrap (m - n) = q) (w : World) : Ev P ⟨dst, .binOp .sub t x y t', ty, pos, af, g⟩ a w (.int k q) := by
  simp [Ev, execOp, hk.op hx, hk.op hy, eqGuard, binOp, Op.intArith, hr]
theorem e_mul (hk : Kn a N L) (hx : ov L x = some (.int k m)) (hy : ov L y = some (.int k n)) (hr : k.wrap (m * n) = q) (w : World) : Ev P ⟨dst, .binOp .mul t x y t', ty, pos, af, g⟩ a w (.int k q) := by
  simp [Ev, execOp, hk.op hx, hk.op hy, eqGuard, binOp, Op.intArith, hr]
theorem e_and (hk : Kn a N L) (hx : ov L x = some (.int k m)) (hy : ov L y = some (.int k n)) (hr : k.wrap ((BitVec.ofInt k.bits m &&& BitVec.ofInt k.bits n).toNat : Int) = q) (w : World) : Ev P ⟨dst, .binOp .and t x y t', ty, pos, af, g⟩ a w (.int k q) := by
  simp only [Ev, execOp, hk.op hx, hk.op hy]
  simp [eqGuard, binOp, Op.intBits, ← hr]
theorem e_or (hk : Kn a N L) (hx : ov L x = some (.int k m)) (hy : ov L y = some (.int k n)) (hr : k.wrap ((BitVec.ofInt k.bits m ||| BitVec.ofInt k.bits n).toNat : Int) = q) (w : World) : Ev P ⟨dst, .binOp .or t x y t', ty, pos, af, g⟩ a w (.int k q) := by
  simp only [Ev, execOp, hk.op hx, hk.op hy]
  simp [eqGuard, binOp, Op.intBits, ← hr]
theorem e_xor (hk : Kn a N L) (hx : ov L x = some (.int k m)) (hy : ov L y = some (.int k n)) (hr : k.wrap ((BitVec.ofInt k.bits m ^^^ BitVec.ofInt k.bits n).toNat : Int) = q) (w : World) : Ev P ⟨dst, .binOp .xor t x y t', ty, pos, af, g⟩ a w (.int k q) := by
  simp only [Ev, execOp, hk.op hx, hk.op hy]
  simp [eqGuard, binOp, Op.intBits, ← hr]
theorem e_shl (hk : Kn a N L) (hx : ov L x = some (.int k m)) (hy : ov L y = some (.int k' n)) (h0 : 0 ≤ n) (hr : k.wrap (m * 2 ^ min n.toNat k.bits) = q) (w : World) : Ev P ⟨dst, .binOp .shl t x y t', ty, pos, af, g⟩ a w (.int k q) := by
  simp [Ev, execOp, hk.op hx, hk.op hy, eqGuard, binOp, Op.shift, hr, Int.not_lt.2 h0]
theorem e_shr (hk : Kn a N L) (hx : ov L x = some (.int k m)) (hy : ov L y = some (.int k' n)) (h0 : 0 ≤ n) (hr : m.fdiv (2 ^ min n.toNat k.bits) = q) (w : World) : Ev P ⟨dst, .binOp .shr t x y t', ty, pos, af, g⟩ a w (.int k q) := by
  simp [Ev, execOp, hk.op hx, hk.op hy, eqGuard, binOp, Op.shift, hr, Int.not_lt.2 h0]
theorem e_quo (hk : Kn a N L) (hx : ov L x = some (.int k m)) (hy : ov L y = some (.int k n)) (h0 : n ≠ 0) (hr : k.wrap (m.tdiv n) = q) (w : World) : Ev P ⟨dst, .binOp .quo t x y t', ty, pos, af, g⟩ a w (.int k q) := by
  simp [Ev, execOp, hk.op hx, hk.op hy, eqGuard, binOp, Op.intDiv, h0, hr]
theorem e_rem (hk : Kn a N L) (hx : ov L x = some (.int k m)) (hy : ov L y = some (.int k n)) (h0 : n ≠ 0) (hr : m.tmod n = q) (w : World) : Ev P ⟨dst, .binOp .rem t x y t', ty, pos, af, g⟩ a w (.int k q) := by
  simp [Ev, execOp, hk.op hx, hk.op hy, eqGuard, binOp, Op.intDiv, h0, hr]
theorem e_lss (hk : Kn a N L) (hx : ov L x = some (.int k m)) (hy : ov L y = some (.int k n)) (hr : decide (m < n) = b) (w : World) : Ev P ⟨dst, .binOp .lss t x y t', ty, pos, af, g⟩ a w (.bool b) := by
  simp [Ev, execOp, hk.op hx, hk.op hy, eqGuard, binOp, Op.intCmp, hr]
theorem e_leq (hk : Kn a N L) (hx : ov L x = some (.int k m)) (hy : ov L y = some (.int k n)) (hr : decide (m ≤ n) = b) (w : World) : Ev P ⟨dst, .binOp .leq t x y t', ty, pos, af, g⟩ a w (.bool b) := by
  simp [Ev, execOp, hk.op hx, hk.op hy, eqGuard, binOp, Op.intCmp, hr]
theorem e_gtr (hk : Kn a N L) (hx : ov L x = some (.int k m)) (hy : ov L y = some (.int k n)) (hr : decide (m > n) = b) (w : World) : Ev P ⟨dst, .binOp .gtr t x y t', ty, pos, af, g⟩ a w (.bool b) := by
  simp only [Ev, execOp, hk.op hx, hk.op hy]
  simp [eqGuard, binOp, Op.intCmp, ← hr]
theorem e_geq (hk : Kn a N L) (hx : ov L x = some (.int k m)) (hy : ov L y = some (.int k n)) (hr : decide (m ≥ n) = b) (w : World) : Ev P ⟨dst, .binOp .geq t x y t', ty, pos, af, g⟩ a w (.bool b) := by
  simp only [Ev, execOp, hk.op hx, hk.op hy]
  simp [eqGuard, binOp, Op.intCmp, ← hr]
theorem e_eql (hk : Kn a N L) (hx : ov L x = some (.int k m)) (hy : ov L y = some (.int k n)) (hr : decide (m = n) = b) (w : World) : Ev P ⟨dst, .binOp .eql t x y t', ty, pos, af, g⟩ a w (.bool b) := by
  simp only [Ev, execOp, hk.op hx, hk.op hy]
  simp [eqGuard, binOp, Op.intCmp, ← hr]
  rfl
theorem e_neq (hk : Kn a N L) (hx : ov L x = some (.int k m)) (hy : ov L y = some (.int k n)) (hr : (!decide (m = n)) = b) (w : World) : Ev P ⟨dst, .binOp .neq t x y t', ty, pos, af, g⟩ a w (.bool b) := by
  simp only [Ev, execOp, hk.op hx, hk.op hy]
  simp [eqGuard, binOp, Op.intCmp, ← hr]
  rfl

variable {s u : List UInt8}
theorem str_eq (s u : List UInt8) : ((⟨s.toArray⟩ : ByteArray).toList == (⟨u.toArray⟩ : ByteArray).toList) = decide (s = u) := by
  have h : ∀ s : List UInt8, (⟨s.toArray⟩ : ByteArray).toList = s := fun s => by simp [ByteArray.toList_eq]
  rw [h, h, Bool.eq_iff_iff]
  simp
theorem e_seql (hk : Kn a N L) (hx : ov L x = some (Str s)) (hy : ov L y = some (Str u)) (hr : decide (s = u) = b) (w : World) : Ev P ⟨dst, .binOp .eql t x y t', ty, pos, af, g⟩ a w (.bool b) := by
  simp only [Ev, execOp, hk.op hx, hk.op hy]
  simp only [eqGuard, binOp, Op.stringOp, str_eq, hr]
  rfl
theorem e_sneq (hk : Kn a N L) (hx : ov L x = some (Str s)) (hy : ov L y = some (Str u)) (hr : (!decide (s = u)) = b) (w : World) : Ev P ⟨dst, .binOp .neq t x y t', ty, pos, af, g⟩ a w (.bool b) := by
  simp only [Ev, execOp, hk.op hx, hk.op hy]
  simp only [eqGuard, binOp, Op.stringOp, str_eq, hr]
  rfl
theorem e_sadd (hk : Kn a N L) (hx : ov L x = some (Str s)) (hy : ov L y = some (Str u)) (hl : s.length + u.length ≤ 9223372036854775807) (w : World) : Ev P ⟨dst, .binOp .add t x y t', ty, pos, af, g⟩ a w (Str (s ++ u)) := by
  have e : (⟨s.toArray⟩ : ByteArray) ++ ⟨u.toArray⟩ = ⟨(s ++ u).toArray⟩ := by
    rw [ByteArray.ext_iff]; simp
  simp only [Ev, execOp, hk.op hx, hk.op hy]
  have h1 : (⟨s.toArray⟩ : ByteArray).size = s.length := rfl
  have h2 : (⟨u.toArray⟩ : ByteArray).size = u.length := rfl
  have h3 : ¬ (((s.length + u.length : Nat) : Int) > IntKind.i64.max) := by
    have : IntKind.i64.max = 9223372036854775807 := by decide
    rw [this]; omega
  simp only [eqGuard, binOp, Op.stringOp, h1, h2, if_neg h3, e]
  rfl
theorem e_not (hk : Kn a N L) (hx : ov L x = some (.bool b)) (w : World) : Ev P ⟨dst, .unOp .not t x, ty, pos, af, g⟩ a w (.bool (!b)) := by
  simp [Ev, execOp, hk.op hx, Op.unary]
theorem e_notT (hk : Kn a N L) (hx : ov L x = some (.bool true)) (w : World) : Ev P ⟨dst, .unOp .not t x, ty, pos, af, g⟩ a w (.bool false) := e_not hk hx w
theorem e_notF (hk : Kn a N L) (hx : ov L x = some (.bool false)) (w : World) : Ev P ⟨dst, .unOp .not t x, ty, pos, af, g⟩ a w (.bool true) := e_not hk hx w
theorem e_neg (hk : Kn a N L) (hx : ov L x = some (.int k m)) (hr : k.wrap (0 - m) = q) (w : World) : Ev P ⟨dst, .unOp .neg t x, ty, pos, af, g⟩ a w (.int k q) := by
  simp only [Ev, execOp, hk.op hx]
  simp [Op.unary, Op.intArith, ← hr]
theorem e_cpl (hk : Kn a N L) (hx : ov L x = some (.int k m)) (hs : k.signed = false) (hr : k.wrap ((BitVec.ofInt k.bits k.max ^^^ BitVec.ofInt k.bits m).toNat : Int) = q) (w : World) : Ev P ⟨dst, .unOp .xor t x, ty, pos, af, g⟩ a w (.int k q) := by
  simp only [Ev, execOp, hk.op hx]
  simp [Op.unary, Op.intBits, hs, ← hr]
theorem e_conv {ds : TypeDesc} (hk : Kn a N L) (hx : ov L x = some (.int k m)) (hs : P.underlying t = some ds) (hd : P.underlying t' = some (.int k')) (hr : k'.wrap m = q) (w : World) : Ev P ⟨dst, .convert t t' x, ty, pos, af, g⟩ a w (.int k' q) := by
  simp only [Ev, execOp, hk.op hx]
  simp [convert, run_underlying hs, run_underlying hd, Conv.intToInt, hr]
theorem e_ext {vs : List Value} {i : Nat} (hk : Kn a N L) (hx : ov L x = some (.tuple vs.toArray)) (hi : vs[i]? = some v) (w : World) : Ev P ⟨dst, .extract x i, ty, pos, af, g⟩ a w v := by
  simp only [Ev, execOp, hk.op hx]
  simp [Instr.extract, hi]
theorem e_lenS {ad : Option Addr} {l c : Nat} {e : TypeId} (hk : Kn a N L) (hx : ov L x = some (.slice ad l c)) (ht : P.underlying t = some (.slice e)) (w : World) : Ev P ⟨dst, .call { callee := .builtin .len, args := #[x], argTypes := #[t] }, ty, pos, af, g⟩ a w (.int .i64 l) := by
  simp [Ev, execOp, hk.op hx, resolve, invoke, builtin, Builtin.len_, run_underlying ht, goInt]
theorem e_lenStr (hk : Kn a N L) (hx : ov L x = some (Str s)) (ht : P.underlying t = some .string) (w : World) : Ev P ⟨dst, .call { callee := .builtin .len, args := #[x], argTypes := #[t] }, ty, pos, af, g⟩ a w (.int .i64 s.length) := by
  have h1 : (⟨s.toArray⟩ : ByteArray).size = s.length := rfl
  simp [Ev, execOp, hk.op hx, resolve, invoke, builtin, Builtin.len_, run_underlying ht, goInt, h1]
theorem e_min (hk : Kn a N L) (hx : ov L x = some (.int k m)) (hy : ov L y = some (.int k n)) (hr : min m n = q) (w : World) : Ev P ⟨dst, .call { callee := .builtin .min, args := #[x, y], argTypes := #[t, t'] }, ty, pos, af, g⟩ a w (.int k q) := by
  have e : (if n < m then n else m) = q := by rw [← hr]; omega
  simp [Ev, execOp, hk.op hx, hk.op hy, resolve, invoke, builtin, Builtin.min_, Builtin.min2, e]
theorem e_max (hk : Kn a N L) (hx : ov L x = some (.int k m)) (hy : ov L y = some (.int k n)) (hr : max m n = q) (w : World) : Ev P ⟨dst, .call { callee := .builtin .max, args := #[x, y], argTypes := #[t, t'] }, ty, pos, af, g⟩ a w (.int k q) := by
  have e : (if n > m then n else m) = q := by rw [← hr]; omega
  have e' : (if m < n then n else m) = q := e
  simp [Ev, execOp, hk.op hx, hk.op hy, resolve, invoke, builtin, Builtin.max_, Builtin.max2, e']
theorem e_func {fn : Fn} {xs ys : List Operand} {us vs : List Value} (hk : Kn a N L) (hx : ovs L xs = some us) (hy : ovs L ys = some vs) (w : World) : Ev P ⟨dst, .makeFunc fn xs.toArray ys.toArray, ty, pos, af, g⟩ a w (.func fn us.toArray vs.toArray) := by
  simp [Ev, execOp, Instr.makeFunc, hk.ops hx, hk.ops hy]

/-- A place in a struct. -/
theorem e_field {bl o i off : Nat} {fs : Array Field} {fld : Field} (hk : Kn a N L) (hx : ov L x = some (.pointer (some ⟨bl, o, none⟩))) (ht : P.underlying t = some (.struct fs)) (hf : fs[i]? = some fld) (ho : fld.offset = off) (hz : ((P.info? fld.type).map fun i => i.size == 0) = some false) (w : World) :
    Ev P ⟨dst, .fieldAddr t x i, ty, pos, af, g⟩ a w (.pointer (some ⟨bl, o + off, none⟩)) := by
  subst ho
  cases hq : P.info? fld.type with
  | none => simp [hq] at hz
  | some inf =>
    have hz' : ¬ inf.size = 0 := by simpa [hq] using hz
    simp [Ev, execOp, hk.op hx, Instr.fieldAt, run_underlying ht, hf, Instr.sureAddr, fieldPlace, sizeOf, typeInfo, hq, hz', Addr.add_lit]
/-- A place in an array. -/
theorem e_idxA {bl o sz ln : Nat} {e : TypeId} {i : Int} (hk : Kn a N L) (hx : ov L x = some (.pointer (some ⟨bl, o, none⟩))) (hy : ov L y = some (.int k i)) (ht : P.underlying t = some (.array ln e)) (hs : (P.info? e).map (·.size) = some sz) (h0 : 0 ≤ i) (h1 : i < ln) (w : World) :
    Ev P ⟨dst, .indexAddr t x y, ty, pos, af, g⟩ a w (.pointer (some ⟨bl, o + i.toNat * sz, none⟩)) := by
  cases hq : P.info? e with
  | none => simp [hq] at hs
  | some inf =>
    have hs' : inf.size = sz := by simpa [hq] using hs
    simp [Ev, execOp, hk.op hx, hk.op hy, Instr.indexAt, asIntOf, run_underlying ht, Instr.sureAddr, sizeOf, typeInfo, hq, hs', h0, h1, Addr.add_lit]
/-- A place in a slice. -/
theorem e_idxS {bl o sz ln c : Nat} {e : TypeId} {i : Int} (hk : Kn a N L) (hx : ov L x = some (.slice (some ⟨bl, o, none⟩) ln c)) (hy : ov L y = some (.int k i)) (ht : P.underlying t = some (.slice e)) (hs : (P.info? e).map (·.size) = some sz) (h0 : 0 ≤ i) (h1 : i < ln) (w : World) :
    Ev P ⟨dst, .indexAddr t x y, ty, pos, af, g⟩ a w (.pointer (some ⟨bl, o + i.toNat * sz, none⟩)) := by
  cases hq : P.info? e with
  | none => simp [hq] at hs
  | some inf =>
    have hs' : inf.size = sz := by simpa [hq] using hs
    simp [Ev, execOp, hk.op hx, hk.op hy, Instr.indexAt, asIntOf, run_underlying ht, sizeOf, typeInfo, hq, hs', h0, h1, Addr.add_lit]
/-- A byte of a string. -/
theorem e_idxStr {c : UInt8} {i : Int} (hk : Kn a N L) (hx : ov L x = some (Str s)) (hy : ov L y = some (.int k i)) (ht : P.underlying t = some .string) (h0 : 0 ≤ i) (hc : s[i.toNat]? = some c) (w : World) :
    Ev P ⟨dst, .index t x y, ty, pos, af, g⟩ a w (B c) := by
  have hlt : i.toNat < s.length := (List.getElem?_eq_some_iff.1 hc).1
  have hg : s[i.toNat] = c := (List.getElem?_eq_some_iff.1 hc).2
  have hb : (⟨s.toArray⟩ : ByteArray)[i.toNat]? = some c := by
    have hsz : i.toNat < (⟨s.toArray⟩ : ByteArray).size := hlt
    rw [getElem?_pos (⟨s.toArray⟩ : ByteArray) i.toNat hsz]
    exact congrArg some hg
  simp [Ev, execOp, hk.op hx, hk.op hy, Instr.index, asIntOf, run_underlying ht, h0, hb]
/-- An element of an array's value. -/
theorem e_idxV {cs : Array Value} {ln : Nat} {e : TypeId} {i : Int} {dd : TypeDesc} (hk : Kn a N L) (hx : ov L x = some (.agg cs)) (hy : ov L y = some (.int k i)) (ht : P.underlying t = some (.array ln e)) (he : P.underlying e = some dd) (hd : dd.isRow = false) (hs : (P.info? e).map (·.size) = some 1) (h0 : 0 ≤ i) (h1 : i < ln) (hv : cs[i.toNat]? = some v) (w : World) :
    Ev P ⟨dst, .index t x y, ty, pos, af, g⟩ a w v := by
  cases hq : P.info? e with
  | none => simp [hq] at hs
  | some inf =>
    have hs' : inf.size = 1 := by simpa [hq] using hs
    have hagg : (isAgg e).run P w = .ok false w := by
      unfold isAgg
      rw [Sem.run_bind, run_underlying he w]
      cases dd <;> simp_all [TypeDesc.isRow]
    simp [Ev, execOp, hk.op hx, hk.op hy, Instr.index, asIntOf, run_underlying ht, sizeOf, typeInfo, hq, hs', h0, h1, part, hagg, hv]
/-- The whole of an array, as a slice. -/
theorem e_slA {bl o sz ln : Nat} {e : TypeId} (hk : Kn a N L) (hx : ov L x = some (.pointer (some ⟨bl, o, none⟩))) (ht : P.underlying t = some (.array ln e)) (hs : (P.info? e).map (·.size) = some sz) (w : World) :
    Ev P ⟨dst, .slice t x none none none, ty, pos, af, g⟩ a w (.slice (some ⟨bl, o, none⟩) ln ln) := by
  cases hq : P.info? e with
  | none => simp [hq] at hs
  | some inf =>
    simp [Ev, execOp, hk.op hx, Instr.sliceAt, run_underlying ht, Instr.sureAddr, Instr.sliceBounds, sizeOf, typeInfo, hq, Addr.add_lit]
/-- An array from a place on, as a slice. -/
theorem e_slAfrom {bl o ln : Nat} {e : TypeId} {i : Int} (hk : Kn a N L) (hx : ov L x = some (.pointer (some ⟨bl, o, none⟩))) (hy : ov L y = some (.int k i)) (ht : P.underlying t = some (.array ln e)) (hs : (P.info? e).map (·.size) = some 1) (h0 : 0 ≤ i) (h1 : i < ln) (w : World) :
    Ev P ⟨dst, .slice t x (some y) none none, ty, pos, af, g⟩ a w (.slice (some ⟨bl, o + i.toNat, none⟩) (ln - i.toNat) (ln - i.toNat)) := by
  have hl' : ¬ ln = i.toNat := by omega
  have h2 : i ≤ (ln : Int) := by omega
  cases hq : P.info? e with
  | none => simp [hq] at hs
  | some inf =>
    have hs' : inf.size = 1 := by simpa [hq] using hs
    simp [Ev, execOp, hk.op hx, hk.op hy, Instr.sliceAt, run_underlying ht, Instr.sureAddr, Instr.sliceBounds, Instr.sliceBound, asIntOf, sizeOf, typeInfo, hq, hs', hl', h0, h2, Addr.add_lit]
theorem e_slAto {bl o ln : Nat} {e : TypeId} {i : Int} (hk : Kn a N L) (hx : ov L x = some (.pointer (some ⟨bl, o, none⟩))) (hy : ov L y = some (.int k i)) (ht : P.underlying t = some (.array ln e)) (hs : (P.info? e).map (·.size) = some 1) (h0 : 0 ≤ i) (h1 : i ≤ ln) (w : World) :
    Ev P ⟨dst, .slice t x none (some y) none, ty, pos, af, g⟩ a w (.slice (some ⟨bl, o, none⟩) i.toNat ln) := by
  cases hq : P.info? e with
  | none => simp [hq] at hs
  | some inf =>
    simp [Ev, execOp, hk.op hx, hk.op hy, Instr.sliceAt, run_underlying ht, Instr.sureAddr, Instr.sliceBounds, Instr.sliceBound, asIntOf, sizeOf, typeInfo, hq, h0, h1, Addr.add_lit]
/-- A string's part. -/
theorem ext_str (s : List UInt8) (l h : Nat) : (⟨s.toArray⟩ : ByteArray).extract l h = ⟨((s.take h).drop l).toArray⟩ := by
  rw [ByteArray.ext_iff]
  simp [ByteArray.data_extract, List.extract_toArray, List.extract_eq_take_drop, List.drop_take]
theorem e_slStrFrom {i : Int} (hk : Kn a N L) (hx : ov L x = some (Str s)) (hy : ov L y = some (.int k i)) (ht : P.underlying t = some .string) (h0 : 0 ≤ i) (h1 : i ≤ s.length) (w : World) :
    Ev P ⟨dst, .slice t x (some y) none none, ty, pos, af, g⟩ a w (Str (s.drop i.toNat)) := by
  have hsz : (⟨s.toArray⟩ : ByteArray).size = s.length := rfl
  simp [Ev, execOp, hk.op hx, hk.op hy, Instr.sliceAt, Instr.slice, run_underlying ht, Instr.sliceBounds, Instr.sliceBound, asIntOf, hsz, h0, h1, ext_str]
theorem e_slStrTo {i : Int} (hk : Kn a N L) (hx : ov L x = some (Str s)) (hy : ov L y = some (.int k i)) (ht : P.underlying t = some .string) (h0 : 0 ≤ i) (h1 : i ≤ s.length) (w : World) :
    Ev P ⟨dst, .slice t x none (some y) none, ty, pos, af, g⟩ a w (Str (s.take i.toNat)) := by
  have hsz : (⟨s.toArray⟩ : ByteArray).size = s.length := rfl
  simp [Ev, execOp, hk.op hx, hk.op hy, Instr.sliceAt, Instr.slice, run_underlying ht, Instr.sliceBounds, Instr.sliceBound, asIntOf, hsz, h0, h1, ext_str]
/-- Part of a slice. -/
theorem e_slS {ad : Option Addr} {ln c sz : Nat} {e : TypeId} {i j : Int} (hk : Kn a N L) (hx : ov L x = some (.slice ad ln c)) (hy : ov L y = some (.int k i)) (hz : ov L z = some (.int k' j)) (ht : P.underlying t = some (.slice e)) (hs : (P.info? e).map (·.size) = some sz) (h0 : 0 ≤ i) (h1 : i ≤ j) (h2 : j ≤ c) (w : World) :
    Ev P ⟨dst, .slice t x (some y) (some z) none, ty, pos, af, g⟩ a w (.slice (if c = i.toNat then ad else ad.map (·.add (i.toNat * sz))) (j.toNat - i.toNat) (c - i.toNat)) := by
  have h01 : 0 ≤ j := by omega
  have h3 : i ≤ max j 0 := by omega
  cases hq : P.info? e with
  | none => simp [hq] at hs
  | some inf =>
    have hs' : inf.size = sz := by simpa [hq] using hs
    simp [Ev, execOp, hk.op hx, hk.op hy, hk.op hz, Instr.sliceAt, Instr.slice, run_underlying ht, Instr.sliceBounds, Instr.sliceBound, asIntOf, sizeOf, typeInfo, hq, hs', h0, h01, h2, h3]
theorem e_slSfrom {ad : Option Addr} {ln c sz : Nat} {e : TypeId} {i : Int} (hk : Kn a N L) (hx : ov L x = some (.slice ad ln c)) (hy : ov L y = some (.int k i)) (ht : P.underlying t = some (.slice e)) (hs : (P.info? e).map (·.size) = some sz) (h0 : 0 ≤ i) (h1 : i ≤ ln) (w : World) :
    Ev P ⟨dst, .slice t x (some y) none none, ty, pos, af, g⟩ a w (.slice (if c = i.toNat then ad else ad.map (·.add (i.toNat * sz))) (ln - i.toNat) (c - i.toNat)) := by
  cases hq : P.info? e with
  | none => simp [hq] at hs
  | some inf =>
    have hs' : inf.size = sz := by simpa [hq] using hs
    simp [Ev, execOp, hk.op hx, hk.op hy, Instr.sliceAt, Instr.slice, run_underlying ht, Instr.sliceBounds, Instr.sliceBound, asIntOf, sizeOf, typeInfo, hq, hs', h0, h1]
theorem e_slSto {ad : Option Addr} {ln c sz : Nat} {e : TypeId} {j : Int} (hk : Kn a N L) (hx : ov L x = some (.slice ad ln c)) (hz : ov L z = some (.int k' j)) (ht : P.underlying t = some (.slice e)) (hs : (P.info? e).map (·.size) = some sz) (h0 : 0 ≤ j) (h2 : j ≤ c) (w : World) :
    Ev P ⟨dst, .slice t x none (some z) none, ty, pos, af, g⟩ a w (.slice (if c = 0 then ad else ad.map (·.add 0)) j.toNat c) := by
  cases hq : P.info? e with
  | none => simp [hq] at hs
  | some inf =>
    have hs' : inf.size = sz := by simpa [hq] using hs
    simp [Ev, execOp, hk.op hx, hk.op hz, Instr.sliceAt, Instr.slice, run_underlying ht, Instr.sliceBounds, Instr.sliceBound, asIntOf, sizeOf, typeInfo, hq, h0, h2]
/-- A slice's array. -/
theorem e_s2a {ad : Option Addr} {ln c n : Nat} {e : TypeId} (hk : Kn a N L) (hx : ov L x = some (.slice ad ln c)) (ht : P.underlying t = some (.array n e)) (h : n ≤ ln) (w : World) : Ev P ⟨dst, .sliceToArrayPointer t x, ty, pos, af, g⟩ a w (.pointer ad) := by
  simp [Ev, execOp, hk.op hx, Instr.arrayAt, run_underlying ht, Nat.not_lt.2 h]
/-- A place in an array or a slice, the index a natural number. -/
theorem e_idxA1 {bl o ln : Nat} {e : TypeId} {i : Int} (n : Nat) (hk : Kn a N L) (hx : ov L x = some (.pointer (some ⟨bl, o, none⟩))) (hy : ov L y = some (.int k i)) (ht : P.underlying t = some (.array ln e)) (hs : (P.info? e).map (·.size) = some 1) (hn : i = (n : Int)) (h1 : n < ln) (w : World) :
    Ev P ⟨dst, .indexAddr t x y, ty, pos, af, g⟩ a w (.pointer (some ⟨bl, o + n, none⟩)) := by
  subst hn
  have h := e_idxA (dst := dst) (ty := ty) (pos := pos) (af := af) (g := g) hk hx hy ht hs (by omega) (by omega) w
  simpa using h
theorem e_idxS1 {bl o ln c : Nat} {e : TypeId} {i : Int} (n : Nat) (hk : Kn a N L) (hx : ov L x = some (.slice (some ⟨bl, o, none⟩) ln c)) (hy : ov L y = some (.int k i)) (ht : P.underlying t = some (.slice e)) (hs : (P.info? e).map (·.size) = some 1) (hn : i = (n : Int)) (h1 : n < ln) (w : World) :
    Ev P ⟨dst, .indexAddr t x y, ty, pos, af, g⟩ a w (.pointer (some ⟨bl, o + n, none⟩)) := by
  subst hn
  have h := e_idxS (dst := dst) (ty := ty) (pos := pos) (af := af) (g := g) hk hx hy ht hs (by omega) (by omega) w
  simpa using h
theorem e_idxAn {bl o ln sz : Nat} {e : TypeId} {i : Int} (n : Nat) (hk : Kn a N L) (hx : ov L x = some (.pointer (some ⟨bl, o, none⟩))) (hy : ov L y = some (.int k i)) (ht : P.underlying t = some (.array ln e)) (hs : (P.info? e).map (·.size) = some sz) (hn : i = (n : Int)) (h1 : n < ln) (w : World) :
    Ev P ⟨dst, .indexAddr t x y, ty, pos, af, g⟩ a w (.pointer (some ⟨bl, o + n * sz, none⟩)) := by
  subst hn
  have h := e_idxA (dst := dst) (ty := ty) (pos := pos) (af := af) (g := g) hk hx hy ht hs (by omega) (by omega) w
  simpa using h
theorem e_idxSn {bl o ln c sz : Nat} {e : TypeId} {i : Int} (n : Nat) (hk : Kn a N L) (hx : ov L x = some (.slice (some ⟨bl, o, none⟩) ln c)) (hy : ov L y = some (.int k i)) (ht : P.underlying t = some (.slice e)) (hs : (P.info? e).map (·.size) = some sz) (hn : i = (n : Int)) (h1 : n < ln) (w : World) :
    Ev P ⟨dst, .indexAddr t x y, ty, pos, af, g⟩ a w (.pointer (some ⟨bl, o + n * sz, none⟩)) := by
  subst hn
  have h := e_idxS (dst := dst) (ty := ty) (pos := pos) (af := af) (g := g) hk hx hy ht hs (by omega) (by omega) w
  simpa using h
/-- Part of a slice, of a known length; not behind the capacity's end. -/
theorem e_slSn {bl o ln c sz : Nat} {e : TypeId} {i j : Int} (n m : Nat) (hk : Kn a N L) (hx : ov L x = some (.slice (some ⟨bl, o, none⟩) ln c)) (hy : ov L y = some (.int k i)) (hz : ov L z = some (.int k' j)) (ht : P.underlying t = some (.slice e)) (hs : (P.info? e).map (·.size) = some sz) (hn : i = (n : Int)) (hm : j = ((n + m : Nat) : Int)) (h2 : n + m ≤ c) (h3 : n < c) (w : World) :
    Ev P ⟨dst, .slice t x (some y) (some z) none, ty, pos, af, g⟩ a w (.slice (some ⟨bl, o + n * sz, none⟩) m (c - n)) := by
  subst hn hm
  have h := e_slS (dst := dst) (ty := ty) (pos := pos) (af := af) (g := g) hk hx hy hz ht hs (by omega) (by omega) (by omega) w
  have e1 : ¬ c = n := by omega
  have e2 : n + m - n = m := by omega
  simpa [e1, e2, Addr.add_lit, -Int.natCast_add] using h
theorem e_slAfromN {bl o ln : Nat} {e : TypeId} {i : Int} (n : Nat) (hk : Kn a N L) (hx : ov L x = some (.pointer (some ⟨bl, o, none⟩))) (hy : ov L y = some (.int k i)) (ht : P.underlying t = some (.array ln e)) (hs : (P.info? e).map (·.size) = some 1) (hn : i = (n : Int)) (h1 : n < ln) (w : World) :
    Ev P ⟨dst, .slice t x (some y) none none, ty, pos, af, g⟩ a w (.slice (some ⟨bl, o + n, none⟩) (ln - n) (ln - n)) := by
  subst hn
  have h := e_slAfrom (dst := dst) (ty := ty) (pos := pos) (af := af) (g := g) hk hx hy ht hs (by omega) (by omega) w
  simpa using h
theorem e_slAtoN {bl o ln : Nat} {e : TypeId} {i : Int} (n : Nat) (hk : Kn a N L) (hx : ov L x = some (.pointer (some ⟨bl, o, none⟩))) (hy : ov L y = some (.int k i)) (ht : P.underlying t = some (.array ln e)) (hs : (P.info? e).map (·.size) = some 1) (hn : i = (n : Int)) (h1 : n ≤ ln) (w : World) :
    Ev P ⟨dst, .slice t x none (some y) none, ty, pos, af, g⟩ a w (.slice (some ⟨bl, o, none⟩) n ln) := by
  subst hn
  have h := e_slAto (dst := dst) (ty := ty) (pos := pos) (af := af) (g := g) hk hx hy ht hs (by omega) (by omega) w
  simpa using h
def pv (L : Fm) : List (Nat × Operand) → Option (List (Nat × Value))
  | [] => some []
  | (i, x) :: r => match ov L x, pv L r with
    | some v, some vs => some ((i, v) :: vs)
    | _, _ => none
theorem Kn.pv {a : Act} {N : Nat} {L : Fm} (hk : Kn a N L) {xs : List (Nat × Operand)} {vs : List (Nat × Value)} (h : pv L xs = some vs) : xs.map (fun p => (p.1, a.eval p.2)) = vs := by
  induction xs generalizing vs with
  | nil => simp [YtidfbboalbchiaaDoor.pv] at h; simp [h]
  | cons p r ih =>
    obtain ⟨i, x⟩ := p
    unfold YtidfbboalbchiaaDoor.pv at h
    split at h
    · rename_i v vs' hv hvs
      cases h
      simp [hk.op hv, ih hvs]
    · cases h
/-- An array's value, out of its elements. -/
theorem e_buildA {ps : List (Nat × Operand)} {vs : List (Nat × Value)} {zv : Value} {n sz : Nat} {e : TypeId} {cells : Array Value} (hk : Kn a N L) (hx : pv L ps = some vs) (hz : (P.info? t).map (·.zero) = some (some zv)) (ht : P.underlying t = some (.array n e)) (hs : (P.info? e).map (·.size) = some sz)
    (hf : Instr.fill (fun i => some (i * sz, sz)) zv.cells vs = some cells) (w : World) : Ev P ⟨dst, .build t ps.toArray, ty, pos, af, g⟩ a w (.agg cells) := by
  have h := hk.pv hx
  cases hq : P.info? t with
  | none => simp [hq] at hz
  | some inf =>
    have hz' : inf.zero = some zv := by simpa [hq] using hz
    cases hq' : P.info? e with
    | none => simp [hq'] at hs
    | some inf' =>
      have hs' : inf'.size = sz := by simpa [hq'] using hs
      simp [Ev, execOp, Instr.build, zeroValue, sizeOf, typeInfo, hq, hz', hq', hs', run_underlying ht, h, hf]
theorem e_slStrFromN {i : Int} (n : Nat) (hk : Kn a N L) (hx : ov L x = some (Str s)) (hy : ov L y = some (.int k i)) (ht : P.underlying t = some .string) (hn : i = (n : Int)) (h1 : n ≤ s.length) (w : World) :
    Ev P ⟨dst, .slice t x (some y) none none, ty, pos, af, g⟩ a w (Str (s.drop n)) := by
  subst hn
  have h := e_slStrFrom (dst := dst) (ty := ty) (pos := pos) (af := af) (g := g) hk hx hy ht (by omega) (by omega) w
  simpa using h
theorem e_slStrToN {i : Int} (n : Nat) (hk : Kn a N L) (hx : ov L x = some (Str s)) (hy : ov L y = some (.int k i)) (ht : P.underlying t = some .string) (hn : i = (n : Int)) (h1 : n ≤ s.length) (w : World) :
    Ev P ⟨dst, .slice t x none (some y) none, ty, pos, af, g⟩ a w (Str (s.take n)) := by
  subst hn
  have h := e_slStrTo (dst := dst) (ty := ty) (pos := pos) (af := af) (g := g) hk hx hy ht (by omega) (by omega) w
  simpa using h
/-- A struct's value, out of its fields. -/
theorem e_buildS {ps : List (Nat × Operand)} {vs : List (Nat × Value)} {zv : Value} {fs : Array Field} {pl : Array (Nat × Nat)} {cells : Array Value} (hk : Kn a N L) (hx : pv L ps = some vs) (hz : (P.info? t).map (·.zero) = some (some zv)) (ht : P.underlying t = some (.struct fs))
    (hp : ∀ w, (fs.mapM fun (f : Field) => (do pure (f.offset, ← sizeOf f.type) : Sem (Nat × Nat))).run P w = .ok pl w) (hf : Instr.fill (pl[·]?) zv.cells vs = some cells) (w : World) : Ev P ⟨dst, .build t ps.toArray, ty, pos, af, g⟩ a w (.agg cells) := by
  have h := hk.pv hx
  cases hq : P.info? t with
  | none => simp [hq] at hz
  | some inf =>
    have hz' : inf.zero = some zv := by simpa [hq] using hz
    have hp' := hp w
    simp only [Ev, execOp, Instr.build]
    simp [zeroValue, typeInfo, hq, hz', run_underlying ht] at hp' ⊢
    rw [hp']
    simp [h, hf]
end
end Go.Proofs.YtidfbboalbchiaaDoor

namespace Go.Proofs.YtidfbboalbchiaaDoor
open Go Go.RowKit

/-! ### What becomes of the world -/
abbrev Ext (w w' : World) : Prop := Below w.heap.size w w'
theorem below_at {w w' : World} {C k : Nat} {o : Obj} (h : Below C w w') (hC : k < C) (hk : w.heap[k]? = some o) : w'.heap[k]? = some o := by
  rw [h.block k hC]; exact hk
theorem heap_lt {w : World} {k : Nat} {o : Obj} (hk : w.heap[k]? = some o) : k < w.heap.size := (Array.getElem?_eq_some_iff.1 hk).1
theorem ext_at {w w' : World} {k : Nat} {o : Obj} (h : Ext w w') (hk : w.heap[k]? = some o) : w'.heap[k]? = some o := below_at h (heap_lt hk) hk
theorem ext_cell {w w' : World} {p : Addr} {v : Value} (h : Ext w w') (hc : w.cell? p = some v) : w'.cell? p = some v := by
  rw [h.cell (p := p) (World.block_lt_of_cell? w p hc)]; exact hc
theorem ext_trans {a b c : World} (h : Ext a b) (k : Ext b c) : Ext a c := h.trans (k.mono h.size)
theorem below_ext {C : Nat} {a b c : World} (h : Below C a b) (hC : C ≤ a.heap.size) (k : Ext b c) : Below C a c := h.trans (k.mono (Nat.le_trans hC h.size))
theorem ext_drew (w : World) : Ext w w.drew := (Below.refl _ _).drew

/-- A new block. -/
structure Grew (w w' : World) (b : Nat) (o : Obj) : Prop where
  ge : w.heap.size ≤ b
  at_ : w'.heap[b]? = some o
  ext : Ext w w'
theorem Grew.lt {w w' : World} {b : Nat} {o : Obj} (h : Grew w w' b o) : b < w'.heap.size := heap_lt h.at_
theorem Grew.ne {w w' : World} {b k : Nat} {o o' : Obj} (h : Grew w w' b o) (hk : w.heap[k]? = some o') : k ≠ b := by
  have := heap_lt hk; have := h.ge; omega
theorem grew_alloc (w : World) (o : Obj) : Grew w (w.alloc o) w.heap.size o :=
  ⟨Nat.le_refl _, heap_alloc_new w o, (Below.refl _ _).alloc (Nat.le_refl _) o⟩

/-- One block is written. -/
structure Wrote (w w' : World) (b : Nat) (o : Obj) : Prop where
  at_ : w'.heap[b]? = some o
  other : ∀ k, k ≠ b → w'.heap[k]? = w.heap[k]?
  size : w'.heap.size = w.heap.size
  os : w'.os = w.os
  tape : w'.tape = w.tape
  output : w'.output = w.output
theorem Wrote.keep {w w' : World} {b k : Nat} {o o' : Obj} (h : Wrote w w' b o) (hne : k ≠ b) (hk : w.heap[k]? = some o') : w'.heap[k]? = some o' := by
  rw [h.other k hne]; exact hk
theorem Wrote.cell {w w' : World} {b : Nat} {o : Obj} {p : Addr} {v : Value} (h : Wrote w w' b o) (hne : p.block ≠ b) (hc : w.cell? p = some v) : w'.cell? p = some v := by
  unfold World.cell? at *
  rw [h.other _ hne]; exact hc
theorem Wrote.below {C : Nat} {w0 w w' : World} {b : Nat} {o : Obj} (h : Wrote w w' b o) (hB : Below C w0 w) (hb : C ≤ b) : Below C w0 w' :=
  hB.trans ⟨h.os, h.tape, h.output, Nat.le_of_eq h.size.symm, fun k hk => h.other k (by omega)⟩
theorem wrote_setRow (w : World) (b : Nat) (old cs : Array Value) (t : TypeId) (fr : Nat × Nat) (hg : w.heap[b]? = some (.cells old t fr)) : Wrote w (w.setRow b cs) b (.cells cs t fr) :=
  ⟨setRow_heap w b old cs t fr hg, fun k hk => setRow_other w b k cs hk, by simp, rfl, rfl, rfl⟩

/-- The cells of a slice: n elements of sz cells each. -/
def Rd (w : World) (ad : Option Addr) (n c sz : Nat) (xs : List Value) : Prop :=
  xs.length = n * sz ∧ n ≤ c ∧ ∀ i u, xs[i]? = some u → ∃ b o, ad = some ⟨b, o, none⟩ ∧ w.cell? ⟨b, o + i, none⟩ = some u
theorem Rd.ext {w w' : World} {ad : Option Addr} {n c sz : Nat} {xs : List Value} (h : Rd w ad n c sz xs) (hE : Ext w w') : Rd w' ad n c sz xs :=
  ⟨h.1, h.2.1, fun i u hu => by obtain ⟨b, o, h1, h2⟩ := h.2.2 i u hu; exact ⟨b, o, h1, ext_cell hE h2⟩⟩
theorem Rd.below {C : Nat} {w w' : World} {ad : Option Addr} {n c sz : Nat} {xs : List Value} (h : Rd w ad n c sz xs) (hB : Below C w w') (hC : w.heap.size ≤ C) : Rd w' ad n c sz xs := h.ext (hB.mono hC)
theorem Rd.of_own {w : World} {base : Nat} {e : TypeId} {sz : Nat} {v : Value} {n : Nat} {xs : List Value} (h : w.ownsRow base e sz v n xs) : ∃ ad c, v = .slice ad n c ∧ c ≤ maxLen ∧ Rd w ad n c sz xs := by
  obtain ⟨h1, h2⟩ := h
  rcases h2 with ⟨rfl, rfl⟩ | ⟨b, cap, cur, rfl, _, hg, hn, hm, hs, ht⟩
  · exact ⟨none, 0, rfl, Nat.zero_le _, h1, Nat.le_refl _, fun i u hu => by
      have : xs = [] := List.eq_nil_of_length_eq_zero (by simpa using h1)
      subst this; simp at hu⟩
  · refine ⟨some ⟨b, 0, none⟩, cap, rfl, hm, h1, hn, fun i u hu => ⟨b, 0, rfl, ?_⟩⟩
    rw [Nat.zero_add, cell_of_row w b i cur e (0, 0) hg]
    rw [← ht, List.getElem?_take] at hu
    split at hu
    · simpa using hu
    · cases hu
/-- A block read as a slice from a place on. -/
theorem Rd.of_block {w : World} {b o n c sz : Nat} {cs : Array Value} {t : TypeId} {fr : Nat × Nat} {xs : List Value} (hg : w.heap[b]? = some (.cells cs t fr)) (hl : xs.length = n * sz) (hc : n ≤ c) (hx : ∀ i, i < xs.length → cs[o + i]? = xs[i]?) : Rd w (some ⟨b, o, none⟩) n c sz xs :=
  ⟨hl, hc, fun i u hu => ⟨b, o, rfl, by rw [cell_of_row w b (o + i) cs t fr hg, hx i (List.getElem?_eq_some_iff.1 hu).1]; exact hu⟩⟩
theorem own_ext {w w' : World} {base : Nat} {e : TypeId} {sz : Nat} {v : Value} {n : Nat} {xs : List Value} (h : w.ownsRow base e sz v n xs) (hE : Ext w w') : w'.ownsRow base e sz v n xs := by
  refine ⟨h.1, ?_⟩
  rcases h.2 with hn | ⟨g, cap, cur, rfl, hb, hg, r⟩
  · exact .inl hn
  · exact .inr ⟨g, cap, cur, rfl, hb, ext_at hE hg, r⟩
theorem own_mono {w : World} {base base' : Nat} {e : TypeId} {sz : Nat} {v : Value} {n : Nat} {xs : List Value} (h : w.ownsRow base e sz v n xs) (hb : base' ≤ base) : w.ownsRow base' e sz v n xs := by
  refine ⟨h.1, ?_⟩
  rcases h.2 with hn | ⟨g, cap, cur, rfl, hg, r⟩
  · exact .inl hn
  · exact .inr ⟨g, cap, cur, rfl, Nat.le_trans hb hg, r⟩
theorem own_wrote {w w' : World} {base : Nat} {e : TypeId} {sz : Nat} {v : Value} {n : Nat} {xs : List Value} {b : Nat} {o : Obj} (h : w.ownsRow base e sz v n xs) (hW : Wrote w w' b o) (hne : v.ownBlock ≠ some b) : w'.ownsRow base e sz v n xs := by
  refine ⟨h.1, ?_⟩
  rcases h.2 with hn | ⟨g, cap, cur, rfl, hb, hg, r⟩
  · exact .inl hn
  · exact .inr ⟨g, cap, cur, rfl, hb, hW.keep (fun e => hne (by simp [Value.ownBlock, e])) hg, r⟩

/-! ### An operation that acts -/
section
variable {P : Program} {ops : Array Oper} {Q : Exit → Act → World → Prop} {rest : List Oper} {o : Oper} {a : Act} {w : World} {N : Nat} {L : Fm}
theorem la (hk : Kn a N L) (hw : wt ops L o = some true) (h : acts P o (fun a' w' => wpList P ops Q rest a' w') a w) : wpList P ops Q (o :: rest) a w := by
  unfold wpList
  rw [if_pos (hk.wt hw)]
  refine .inl ?_
  unfold Oper.wp
  rcases h with ⟨u, w', h1, h2⟩ | ⟨w', h1, h2⟩ | ⟨f, args, w', h1, h2⟩
  · rw [h1]; exact h2
  · rw [h1]; exact h2
  · rw [h1]
    exact h2.mono fun e w'' ⟨u, he, hu⟩ => by subst he; exact hu
variable {S : World → Prop} {cl : List Nat} {Z : Act → World → Prop} {n : Nat} {dn : Nat → Bool}
theorem da (i : Nat) (hk : Kn a N L) (hi : ops[i]? = some o) (hc : chkB ops cl dn i = true) (hcl : clAt cl i = 2) (hw : wt ops L o = some true)
    (h : acts P o (fun a' w' => okAny P ops S cl Z n (upd dn i) a' w') a w) : okAny P ops S cl Z (n + 1) dn a w := by
  refine front i hi hc ?_
  unfold wOp
  rw [if_pos (hk.wt hw), hcl]
  exact h
theorem wa {i : Nat} (hk : Kn a N L) (hcl : clAt cl i = 2) (hw : wt ops L o = some true) {K : Act → World → Prop} (h : acts P o K a w) : wOp P ops S (clAt cl i) o K a w := by
  unfold wOp
  rw [if_pos (hk.wt hw), hcl]
  exact h
theorem wa4 {i : Nat} (hk : Kn a N L) (hcl : clAt cl i = 4) (hw : wt ops L o = some true) (hS : S w) {K : Act → World → Prop} (h : acts P o (fun a' w' => S w' ∧ K a' w') a w) : wOp P ops S (clAt cl i) o K a w := by
  unfold wOp
  rw [if_pos (hk.wt hw), hcl]
  exact ⟨hS, h⟩
theorem da4 (i : Nat) (hk : Kn a N L) (hi : ops[i]? = some o) (hc : chkB ops cl dn i = true) (hcl : clAt cl i = 4) (hw : wt ops L o = some true) (hS : S w)
    (h : acts P o (fun a' w' => S w' ∧ okAny P ops S cl Z n (upd dn i) a' w') a w) : okAny P ops S cl Z (n + 1) dn a w := by
  refine front i hi hc ?_
  unfold wOp
  rw [if_pos (hk.wt hw), hcl]
  exact ⟨hS, h⟩
end

section
variable {P : Program} {a : Act} {w : World} {N d : Nat} {L : Fm} {ty : TypeId} {pos : String} {af : Array Edge} {g : Option (Nat × Bool)} {v : Value} {x y z : Operand} {t t' : TypeId} {K : Act → World → Prop} {dst : Option Tmp}

theorem act_v {o : Oper} {w' : World} (hk : Kn a N L) (hd : o.dst = some d) (hN : Nat.blt d N = true) (h : (execOp a.eval o).run P w = .ok (.value v) w') (hK : ∀ a', Kn a' N ((d, v) :: L) → K a' w') : acts P o K a w :=
  .inl ⟨v, w', h, by rw [hd]; exact hK _ (hk.put v hN)⟩
theorem act_s {o : Oper} {w' : World} (hk : Kn a N L) (hd : o.dst = none) (h : (execOp a.eval o).run P w = .ok .skip w') (hK : ∀ a', Kn a' N L → K a' w') : acts P o K a w :=
  .inr (.inl ⟨w', h, by rw [hd]; exact hK _ hk⟩)

/-- A new variable, zero. -/
theorem a_alloc {zv : Value} (hk : Kn a N L) (hN : Nat.blt d N = true) (hz : (P.info? t).map (·.zero) = some (some zv))
    (hK : ∀ a' w' b, Kn a' N ((d, .pointer (some ⟨b, 0, none⟩)) :: L) → Grew w w' b (.cells zv.cells t) → K a' w') : acts P ⟨some d, .alloc t, ty, pos, af, g⟩ K a w := by
  cases hq : P.info? t with
  | none => simp [hq] at hz
  | some inf =>
    have hz' : inf.zero = some zv := by simpa [hq] using hz
    refine act_v (v := .pointer (some ⟨w.heap.size, 0, none⟩)) (w' := w.alloc (.cells zv.cells t)) hk rfl hN ?_ fun a' hk' => hK a' _ _ hk' (grew_alloc _ _)
    simp [execOp, Instr.alloc, zeroValue, typeInfo, hq, hz', newVar, newRow]
/-- A new variable, of a value. -/
theorem a_box (hk : Kn a N L) (hN : Nat.blt d N = true) (hx : ov L x = some v)
    (hK : ∀ a' w' b, Kn a' N ((d, .pointer (some ⟨b, 0, none⟩)) :: L) → Grew w w' b (.cells v.cells t) → K a' w') : acts P ⟨some d, .box t x, ty, pos, af, g⟩ K a w := by
  refine act_v (v := .pointer (some ⟨w.heap.size, 0, none⟩)) (w' := w.alloc (.cells v.cells t)) hk rfl hN ?_ fun a' hk' => hK a' _ _ hk' (grew_alloc _ _)
  simp [execOp, hk.op hx, Instr.box, newVar, newRow]

theorem isAgg_row {dd : TypeDesc} (hu : P.underlying t = some dd) (hd : dd.isRow = false) : (isAgg t).run P w = .ok false w := by
  unfold isAgg
  rw [Sem.run_bind, run_underlying hu w]
  cases dd <;> simp_all [TypeDesc.isRow]
/-- One cell. -/
theorem r_load1 {p : Addr} {dd : TypeDesc} (hk : Kn a N L) (hx : ov L x = some (.pointer (some p))) (hu : P.underlying t = some dd) (hd : dd.isRow = false) (hc : w.cell? p = some v) : Ev P ⟨dst, .load t x, ty, pos, af, g⟩ a w v := by
  simp [Ev, execOp, hk.op hx, Instr.loadAt, Instr.sureAddr, loadVar, isAgg_row hu hd, load, Sem.run, hc]
/-- One cell of a block. -/
theorem r_load {bl o : Nat} {dd : TypeDesc} {cs : Array Value} {tb : TypeId} {fr : Nat × Nat} (hk : Kn a N L) (hx : ov L x = some (.pointer (some ⟨bl, o, none⟩))) (hu : P.underlying t = some dd) (hd : dd.isRow = false) (hb : w.heap[bl]? = some (.cells cs tb fr)) (hc : cs[o]? = some v) : Ev P ⟨dst, .load t x, ty, pos, af, g⟩ a w v :=
  r_load1 hk hx hu hd (by rw [cell_of_row w bl o cs tb fr hb]; exact hc)
/-- A whole block. -/
theorem r_loadB {bl : Nat} {dd : TypeDesc} {cs : Array Value} {tb : TypeId} {fr : Nat × Nat} (hk : Kn a N L) (hx : ov L x = some (.pointer (some ⟨bl, 0, none⟩))) (hb : w.heap[bl]? = some (.cells cs tb fr)) (hu : P.underlying t = some dd) (hd : dd.isRow = true) (hi : (P.info? t).map (·.size) = some cs.size) : Ev P ⟨dst, .load t x, ty, pos, af, g⟩ a w (.agg cs) := by
  have h := run_loadVar_row (P := P) w bl tb t cs fr dd hb hu (by cases dd <;> simp_all [TypeDesc.isRow]) hi
  simp [Ev, execOp, hk.op hx, Instr.loadAt, Instr.sureAddr, h]
/-- Some cells of memory. -/
theorem r_loadR {bl o : Nat} {dd : TypeDesc} {xs : List Value} (hk : Kn a N L) (hx : ov L x = some (.pointer (some ⟨bl, o, none⟩))) (hc : w.rangeAt bl o xs) (hu : P.underlying t = some dd) (hd : dd.isRow = true) (hi : (P.info? t).map (·.size) = some xs.length) : Ev P ⟨dst, .load t x, ty, pos, af, g⟩ a w (.agg xs.toArray) := by
  have h := run_loadVar_mid (P := P) w bl o t xs dd hc hu hd hi
  simp [Ev, execOp, hk.op hx, Instr.loadAt, Instr.sureAddr, h]
theorem range_block {bl o : Nat} {cs : Array Value} {tb : TypeId} {fr : Nat × Nat} {xs : List Value} (hb : w.heap[bl]? = some (.cells cs tb fr)) (hx : ∀ i, i < xs.length → cs[o + i]? = xs[i]?) : w.rangeAt bl o xs := fun j u hu => by
  rw [cell_of_row w bl (o + j) cs tb fr hb, hx j (List.getElem?_eq_some_iff.1 hu).1]; exact hu

/-- A store of one cell. -/
theorem a_store {bl o : Nat} {cs : Array Value} {tb : TypeId} (hk : Kn a N L) (hx : ov L x = some (.pointer (some ⟨bl, o, none⟩))) (hy : ov L y = some v) (h1 : v.oneCell' = true) (hs : (P.info? t).map (·.size) = some 1)
    (hb : w.heap[bl]? = some (.cells cs tb (0, 0))) (ho : o < cs.size) (hK : ∀ a' w', Kn a' N L → Wrote w w' bl (.cells (cs.setIfInBounds o v) tb (0, 0)) → K a' w') : acts P ⟨none, .store t x y, ty, pos, af, g⟩ K a w := by
  refine act_s (w' := w.setRow bl (cs.setIfInBounds o v)) hk rfl ?_ fun a' hk' => hK a' _ hk' (wrote_setRow w bl cs _ tb (0, 0) hb)
  have hcell : w.cell? ⟨bl, o, none⟩ = some cs[o] := by rw [cell_of_row w bl o cs tb (0, 0) hb]; simp [ho]
  have hfro : w.frozen? ⟨bl, o, none⟩ = false := frozen_of_row w bl o cs tb hb
  have hcs : v.cells = #[v] := by cases v <;> simp_all [Value.cells, Value.oneCell']
  have hst : (store ⟨bl, o, none⟩ v).run P w = .ok () (w.setRow bl (cs.setIfInBounds o v)) := by
    rw [run_store P w _ v _ h1, hcell]
    simp [hfro, setCell_eq_setRow w bl o cs tb (0, 0) v hb]
  cases hq : P.info? t with
  | none => simp [hq] at hs
  | some inf =>
    have hs' : inf.size = 1 := by simpa [hq] using hs
    simp [execOp, hk.op hx, hk.op hy, Instr.storeAt, Instr.sureAddr, storeVar, sizeOf, typeInfo, hq, hs', hcs, storeCells, Addr.add_lit, hst]
/-- A store over a part of a block. -/
theorem a_storeR {bl o : Nat} {cs : Array Value} {tb : TypeId} {xs : List Value} (hk : Kn a N L) (hx : ov L x = some (.pointer (some ⟨bl, o, none⟩))) (hy : ov L y = some (.agg xs.toArray)) (h1 : ∀ u ∈ xs, u.oneCell' = true) (hs : (P.info? t).map (·.size) = some xs.length)
    (hb : w.heap[bl]? = some (.cells cs tb (0, 0))) (ho : o + xs.length ≤ cs.size) (hK : ∀ a' w', Kn a' N L → Wrote w w' bl (.cells (cs.toList.take o ++ xs ++ cs.toList.drop (o + xs.length)).toArray tb (0, 0)) → K a' w') : acts P ⟨none, .store t x y, ty, pos, af, g⟩ K a w := by
  refine act_s (w' := w.setRow bl (cs.toList.take o ++ xs ++ cs.toList.drop (o + xs.length)).toArray) hk rfl ?_ fun a' hk' => hK a' _ hk' (wrote_setRow w bl cs _ tb (0, 0) hb)
  have hst := run_storeCells_at P bl o tb xs 0 cs w hb (by simpa using ho) h1
  cases hq : P.info? t with
  | none => simp [hq] at hs
  | some inf =>
    have hs' : inf.size = xs.length := by simpa [hq] using hs
    simp only [Nat.add_zero] at hst
    simp [execOp, hk.op hx, hk.op hy, Instr.storeAt, Instr.sureAddr, storeVar, sizeOf, typeInfo, hq, hs', Value.cells, hst]
/-- A store over a whole block. -/
theorem a_storeB {bl : Nat} {cs cs' : Array Value} {tb : TypeId} (hk : Kn a N L) (hx : ov L x = some (.pointer (some ⟨bl, 0, none⟩))) (hy : ov L y = some (.agg cs')) (h1 : ∀ u ∈ cs', u.oneCell' = true) (hs : (P.info? t).map (·.size) = some cs'.size)
    (hb : w.heap[bl]? = some (.cells cs tb (0, 0))) (ho : cs.size = cs'.size) (hK : ∀ a' w', Kn a' N L → Wrote w w' bl (.cells cs' tb (0, 0)) → K a' w') : acts P ⟨none, .store t x y, ty, pos, af, g⟩ K a w := by
  refine a_storeR (xs := cs'.toList) hk hx (by simpa using hy) (fun u hu => h1 u (by simpa using hu)) (by simpa using hs) hb (by simp [ho]) fun a' w' hk' hW => hK a' w' hk' ?_
  have e : (cs.toList.take 0 ++ cs'.toList ++ cs.toList.drop (0 + cs'.toList.length)).toArray = cs' := by
    rw [List.drop_of_length_le (by simp [ho])]
    simp
  rw [e] at hW
  exact hW

/-- A call, by the callee's contract. -/
theorem a_call {f : FuncId} {args : Array Value} {o : Oper} {R : Ending → World → Prop} (hk : Kn a N L) (hd : o.dst = some d) (hN : Nat.blt d N = true) (h : Ec P o a f args) (hc : Calls P f args w R)
    (hK : ∀ e w', R e w' → ∃ v, e = .returned v ∧ ∀ a', Kn a' N ((d, v) :: L) → K a' w') : acts P o K a w := by
  refine .inr (.inr ⟨f, args, w, h w, hc.mono fun e w' hR => ?_⟩)
  obtain ⟨v, rfl, hv⟩ := hK e w' hR
  exact ⟨v, rfl, by rw [hd]; exact hv _ (hk.put v hN)⟩
def callOk (P : Program) (f : FuncId) : Bool :=
  match P.funcs[f]? with
  | some fn => !(fn.name == "runtime.NumGoroutine") && fn.body.isSome
  | none => false
theorem run_callFunc {f : FuncId} (args : Array Value) (h : callOk P f = true) (w : World) : (callFunc f args).run P w = .ok (.enter f args) w := by
  unfold callOk at h
  cases hf : P.funcs[f]? with
  | none => simp [hf] at h
  | some fn =>
    simp [hf] at h
    obtain ⟨h1, h2⟩ := h
    cases hb : fn.body with
    | none => simp [hb] at h2
    | some c => simp [callFunc, program, Sem.run, hf, h1, hb]
/-- The call of a named function. -/
theorem c_fn {f : FuncId} {xs : List Operand} {vs : List Value} {ats : Array TypeId} (hk : Kn a N L) (hx : ovs L xs = some vs) (hf : callOk P f = true) : Ec P ⟨dst, .call { callee := .value (.func f), args := xs.toArray, argTypes := ats }, ty, pos, af, g⟩ a f vs.toArray := fun w => by
  have h := hk.ops hx
  simp [execOp, resolve, Act.eval, Deferred.ofValue, invoke, h, run_callFunc _ hf]
/-- The call of a function value. -/
theorem c_val {f : FuncId} {xs : List Operand} {vs : List Value} {first captured : List Value} {ats : Array TypeId} (hk : Kn a N L) (hv : ov L x = some (.func (.func f) first.toArray captured.toArray)) (hx : ovs L xs = some vs) (hf : callOk P f = true) : Ec P ⟨dst, .call { callee := .value x, args := xs.toArray, argTypes := ats }, ty, pos, af, g⟩ a f (first ++ vs ++ captured).toArray := fun w => by
  have h := hk.ops hx
  simp [execOp, resolve, hk.op hv, Deferred.ofValue, invoke, h, run_callFunc _ hf]
end
end Go.Proofs.YtidfbboalbchiaaDoor

namespace Go.Proofs.YtidfbboalbchiaaDoor
open Go Go.RowKit

/-- An element type's zero value, cells and bytes. -/
def El (P : Program) (e : TypeId) (z : Value) (sz by_ : Nat) : Prop := (P.info? e).map (fun i => (i.zero, i.size, i.bytes)) = some (some z, sz, by_)

/-- Some rows may have been written (an owned one), the others are as they were. -/
abbrev Kept (w w' : World) (v : Value) : Prop := w.grownBy w' v.ownBlock
theorem kept_below {C : Nat} {w0 w w' : World} {base : Nat} {e : TypeId} {sz n : Nat} {v : Value} {xs : List Value} (hK : Kept w w' v) (hB : Below C w0 w) (hown : w.ownsRow base e sz v n xs) (hb : C ≤ base) (hC : C ≤ w.heap.size) : Below C w0 w' :=
  hB.grown hK hC (fun k hk => by have := (hown.lt k hk).1; omega)
theorem kept_at {w w' : World} {base : Nat} {e : TypeId} {sz n k : Nat} {v : Value} {xs : List Value} {o : Obj} (hK : Kept w w' v) (_hown : w.ownsRow base e sz v n xs) (hne : v.ownBlock ≠ some k) (hk : w.heap[k]? = some o) : w'.heap[k]? = some o := by
  rw [hK.block k (heap_lt hk) (fun e => hne e.symm)]; exact hk
theorem kept_lt {w w' : World} {base : Nat} {e : TypeId} {sz n k : Nat} {v : Value} {xs : List Value} {o : Obj} (hK : Kept w w' v) (hown : w.ownsRow base e sz v n xs) (hlt : k < base) (hk : w.heap[k]? = some o) : w'.heap[k]? = some o :=
  kept_at hK hown (fun e => by have := (hown.lt k e).1; omega) hk
theorem kept_size {w w' : World} {v : Value} (hK : Kept w w' v) : w.heap.size ≤ w'.heap.size := hK.size

section
variable {P : Program} {a : Act} {w : World} {N d : Nat} {L : Fm} {ty : TypeId} {pos : String} {af : Array Edge} {g : Option (Nat × Bool)} {v : Value} {x y z : Operand} {t t' e : TypeId} {K : Act → World → Prop} {dst : Option Tmp}

/-- string(b). -/
theorem e_str {ad : Option Addr} {n c : Nat} {bs : List UInt8} (hk : Kn a N L) (hx : ov L x = some (.slice ad n c)) (hR : Rd w ad n c 1 (bs.map B)) (hs : P.underlying t = some (.slice e)) (he : P.underlying e = some (.int .u8)) (hd : P.underlying t' = some .string) : Ev P ⟨dst, .convert t t' x, ty, pos, af, g⟩ a w (Str bs) := by
  have hl : bs.length = n := by have := hR.1; simpa using this
  have h : (convert t t' (.slice ad n c)).run P w = .ok (Str bs) w := by
    cases ad with
    | none =>
      have hb : bs = [] := by
        cases bs with
        | nil => rfl
        | cons b r => obtain ⟨_, _, h, _⟩ := hR.2.2 0 (B b) rfl; cases h
      subst hb
      rw [run_convert_bytes_string w t t' e none n c hs he hd]
      simp [Conv.bytesToString]
      rfl
    | some p =>
      subst hl
      refine run_convert_bytes_back w t t' e p c bs hs he hd fun j hj => ?_
      obtain ⟨b, o, h1, h2⟩ := hR.2.2 j (B bs[j]) (by simp [hj])
      cases h1
      rw [Addr.add_lit]
      exact h2
  simp [Ev, execOp, hk.op hx, h]
/-- []byte(s). -/
theorem a_bytes {s : List UInt8} (hk : Kn a N L) (hN : Nat.blt d N = true) (hx : ov L x = some (Str s)) (hs : P.underlying t = some .string) (hd : P.underlying t' = some (.slice e)) (he : P.underlying e = some (.int .u8))
    (hK : ∀ a' w' b c, Kn a' N ((d, .slice (some ⟨b, 0, none⟩) s.length c) :: L) → w.heap.size ≤ b → Ext w w' → Rd w' (some ⟨b, 0, none⟩) s.length c 1 (s.map B) → K a' w') : acts P ⟨some d, .convert t t' x, ty, pos, af, g⟩ K a w := by
  have hsz : (⟨s.toArray⟩ : ByteArray).size = s.length := rfl
  have h := run_bytes_of_string (P := P) w t t' e ⟨s.toArray⟩ hs hd he
  rw [hsz] at h
  refine act_v (v := .slice (some ⟨w.heap.size, 0, none⟩) s.length (grownCap w s.length 0 e)) hk rfl hN (by simp only [execOp, hk.op hx]; simp [h]; rfl) fun a' hk' => hK a' _ w.heap.size _ hk' (Nat.le_refl _) ?_ ?_
  · exact (ext_drew w).alloc (Nat.le_refl _) _
  · refine Rd.of_block (heap_alloc_new w.drew _) (by simp) (grownCap_ge _ _ _ _) fun i hi => ?_
    have hi' : i < s.length := by simpa using hi
    simp [bytesRow, Array.getElem?_append, hi']
/-- A slice's literal. -/
theorem a_lit {ps : List (Nat × Operand)} {vs : List (Nat × Value)} {zv : Value} {n sz by_ : Nat} {cells : Array Value} (hk : Kn a N L) (hN : Nat.blt d N = true) (hx : pv L ps = some vs) (ht : P.underlying t = some (.slice e)) (hz : El P e zv sz by_) (hn : Nat.blt (n * sz) 1000 = true) (hn0 : Nat.blt 0 (n * sz) = true)
    (hf : Instr.fill (fun i => some (i * sz, sz)) ((Array.range (n * sz)).map (zv.cells[· % zv.cells.size]!)) vs = some cells) (hc : cells.size = n * sz)
    (hK : ∀ a' w' b, Kn a' N ((d, .slice (some ⟨b, 0, none⟩) n n) :: L) → Grew w w' b (.cells cells e) → K a' w') : acts P ⟨some d, .buildSlice t n ps.toArray, ty, pos, af, g⟩ K a w := by
  have h := hk.pv hx
  have hlt : n * sz < 1000 := (Nat.blt_eq ▸ hn : n * sz < 1000)
  have h0 : ¬ n * sz = 0 := by have : 0 < n * sz := (Nat.blt_eq ▸ hn0 : 0 < n * sz); omega
  refine act_v (v := .slice (some ⟨w.heap.size, 0, none⟩) n n) (w' := w.alloc (.cells cells e)) hk rfl hN ?_ fun a' hk' => hK a' _ _ hk' (grew_alloc _ _)
  unfold El at hz
  cases hq : P.info? e with
  | none => simp [hq] at hz
  | some inf =>
    obtain ⟨hz1, hz2, _⟩ : inf.zero = some zv ∧ inf.size = sz ∧ inf.bytes = by_ := by simpa [hq] using hz
    have hbig : ¬ (16777216 < n * sz) := by omega
    simp [execOp, Instr.buildSlice, run_underlying ht, sizeOf, zeroValue, typeInfo, hq, hz1, hz2, h, hbig, hf, newRow]
    exact fun h => absurd h h0
theorem lit1 (z v : Value) (hv : v.cells = #[v]) : Instr.fill (fun i => some (i * 1, 1)) ((Array.range (1 * 1)).map (z.cells[· % z.cells.size]!)) [(0, v)] = some #[v] := by
  have h : ∀ u : Value, (#[u] : Array Value).setIfInBounds 0 v = #[v] := fun _ => rfl
  have hr : Array.range 1 = #[0] := by decide
  simp [Instr.fill, hv, hr, h]
theorem lit_own {w w' : World} {b n sz : Nat} {cells : Array Value} (hG : Grew w w' b (.cells cells e)) (hc : cells.size = n * sz) (hn : n ≤ maxLen) : w'.ownsRow w.heap.size e sz (.slice (some ⟨b, 0, none⟩) n n) n cells.toList :=
  ⟨by simpa using hc, .inr ⟨b, n, cells, rfl, hG.ge, hG.at_, Nat.le_refl _, hn, hc, List.take_of_length_le (by simp [hc])⟩⟩
/-- append(s, x...) onto a slice that is nil or the call's own. -/
theorem a_app {base m c n sz by_ : Nat} {zv : Value} {xs news : List Value} {ad : Option Addr} (hk : Kn a N L) (hN : Nat.blt d N = true) (hx : ov L x = some v) (hown : w.ownsRow base e sz v n xs) (hy : ov L y = some (.slice ad m c)) (hR : Rd w ad m c sz news) (h1 : ∀ u ∈ news, u.oneCell' = true)
    (ht : P.underlying t = some (.slice e)) (hz : El P e zv sz by_) (hzs : zv.cells.size = sz) (hsz : 0 < sz) (hm : (n + m) * by_ ≤ 140737488355328) (hm2 : n + m ≤ 140737488355328) (hb : base ≤ w.heap.size)
    (hK : ∀ a' w' v', Kn a' N ((d, v') :: L) → w'.ownsRow base e sz v' (n + m) (xs ++ news) → Kept w w' v → K a' w') : acts P ⟨some d, .call { callee := .builtin .append, args := #[x, y], argTypes := #[t, t] }, ty, pos, af, g⟩ K a w := by
  unfold El at hz
  obtain ⟨inf, hq, hz1, hz2, hz3⟩ := info_parts hz
  cases ad with
  | some p =>
    obtain ⟨v', w', hrun, ho, hg, _⟩ := run_append_own (P := P) w base t ty e inf zv sz by_ ht hq hz1 hz2 hz3 hzs hsz v n xs hown p m c news hR.1 (fun j u hu => by
      obtain ⟨b, o, h1, h2⟩ := hR.2.2 j u hu
      cases h1
      rw [Addr.add_lit]; exact h2) h1 (by unfold maxLen; omega) hm hb
    refine act_v hk rfl hN (v := v') (w' := w') (by simp [execOp, hk.op hx, hk.op hy, resolve, invoke, builtin, hrun]) fun a' hk' => hK a' w' v' hk' ho hg
  | none =>
    have hn0 : news = [] := by
      cases news with
      | nil => rfl
      | cons u r => obtain ⟨_, _, h, _⟩ := hR.2.2 0 u rfl; cases h
    subst hn0
    have hm0 : m = 0 := by
      have := hR.1
      rcases Nat.eq_zero_or_pos m with h | h
      · exact h
      · have : 0 < m * sz := Nat.mul_pos h hsz
        have h2 := hR.1
        simp at h2
        omega
    subst hm0
    have hrun : (Builtin.append_ #[t, t] ty #[v, .slice none 0 c]).run P w = .ok v w := by
      rcases hown.2 with ⟨rfl, rfl⟩ | ⟨g', cap, cur, rfl, _, _, hnc, _⟩
      · simp [Builtin.append_, run_underlying ht, sizeOf, typeInfo, hq, Builtin.lenOf, Builtin.firstCells]
      · simp [Builtin.append_, run_underlying ht, sizeOf, typeInfo, hq, Builtin.lenOf, Builtin.firstCells, hnc, storeCells]
    refine act_v hk rfl hN (v := v) (w' := w) (by simp [execOp, hk.op hx, hk.op hy, resolve, invoke, builtin, hrun]) fun a' hk' => hK a' w v hk' (by simpa using hown) ⟨rfl, rfl, rfl, Nat.le_refl _, fun _ _ _ => rfl⟩
/-- append(b, s...), s a string. -/
theorem a_appStr {base n : Nat} {xs : List Value} {s : List UInt8} (hk : Kn a N L) (hN : Nat.blt d N = true) (hx : ov L x = some v) (hown : w.ownsRow base e 1 v n xs) (hy : ov L y = some (Str s))
    (ht : P.underlying t = some (.slice e)) (hu : P.underlying t' = some .string) (hz : El P e (.int .u8 0) 1 1) (hm : n + s.length ≤ 140737488355328) (hb : base ≤ w.heap.size)
    (hK : ∀ a' w' v', Kn a' N ((d, v') :: L) → w'.ownsRow base e 1 v' (n + s.length) (xs ++ s.map B) → Kept w w' v → K a' w') : acts P ⟨some d, .call { callee := .builtin .append, args := #[x, y], argTypes := #[t, t'] }, ty, pos, af, g⟩ K a w := by
  unfold El at hz
  obtain ⟨inf, hq, hz1, hz2, hz3⟩ := info_parts hz
  have hsz : (⟨s.toArray⟩ : ByteArray).size = s.length := rfl
  obtain ⟨v', w', hrun, ho, hg, _⟩ := Lib.run_append_own_string (P := P) w base t t' ty e inf ht hu hq hz1 hz2 hz3 v n xs hown ⟨s.toArray⟩ (by rw [hsz]; unfold maxLen; omega) (by rw [hsz]; exact hm) hb
  refine act_v hk rfl hN (v := v') (w' := w') (by simp [execOp, hk.op hx, hk.op hy, resolve, invoke, builtin, hrun]) fun a' hk' => hK a' w' v' hk' ?_ hg
  rw [hsz] at ho
  exact ho
/-- copy(b, s), b a part of a block of the call's own, s a string. -/
theorem a_copyStr {bl o dl dc : Nat} {cs : Array Value} {tb : TypeId} {s : List UInt8} (hk : Kn a N L) (hN : Nat.blt d N = true) (hx : ov L x = some (.slice (some ⟨bl, o, none⟩) dl dc)) (hy : ov L y = some (Str s)) (ht : P.underlying t = some (.slice e)) (hs : (P.info? e).map (·.size) = some 1)
    (hb : w.heap[bl]? = some (.cells cs tb (0, 0))) (ho : o + dl ≤ cs.size)
    (hK : ∀ a' w', Kn a' N ((d, .int .i64 (min s.length dl : Nat)) :: L) → Wrote w w' bl (.cells (cs.toList.take o ++ (s.take (min s.length dl)).map B ++ cs.toList.drop (o + min s.length dl)).toArray tb (0, 0)) → K a' w') :
    acts P ⟨some d, .call { callee := .builtin .copy, args := #[x, y], argTypes := #[t, t'] }, ty, pos, af, g⟩ K a w := by
  have hsz : (⟨s.toArray⟩ : ByteArray).size = s.length := rfl
  have hlen : ((s.take (min s.length dl)).map B).length = min s.length dl := by simp
  have hst := run_storeCells_at P bl o tb ((s.take (min s.length dl)).map B) 0 cs w hb (by rw [hlen]; omega) (fun u hu => by
    obtain ⟨b, _, rfl⟩ := List.mem_map.1 hu; rfl)
  simp only [Nat.add_zero, hlen] at hst
  refine act_v (v := .int .i64 (min s.length dl : Nat)) (w' := w.setRow bl (cs.toList.take o ++ (s.take (min s.length dl)).map B ++ cs.toList.drop (o + min s.length dl)).toArray) hk rfl hN ?_ fun a' hk' => hK a' _ hk' (wrote_setRow w bl cs _ tb (0, 0) hb)
  cases hq : P.info? e with
  | none => simp [hq] at hs
  | some inf =>
    have hs' : inf.size = 1 := by simpa [hq] using hs
    have hfc : (Builtin.firstCells 1 (min s.length dl) (.string ⟨s.toArray⟩)).run P w = .ok ((s.take (min s.length dl)).map B).toArray w := by
      simp [Builtin.firstCells, ext_str]
    simp only [execOp, resolve, invoke, builtin]
    simp [hk.op hx, hk.op hy, Builtin.copy_, run_underlying ht, Builtin.lenOf, sizeOf, typeInfo, hq, hs', hsz, Nat.min_def] at hfc ⊢
    simp [Nat.min_def] at hst
    rw [hfc]
    simp [hst, goInt]
/-- make([]T, n). -/
theorem a_make {n sz by_ : Nat} {zv : Value} (hk : Kn a N L) (hN : Nat.blt d N = true) (hx : ov L x = some (.int .i64 (n : Int))) (hy : ov L y = some (.int .i64 (n : Int))) (ht : P.underlying t = some (.slice e)) (hz : El P e zv sz by_) (hb : by_ * n ≤ 281474976710656) (hn : n ≤ maxLen)
    (hK : ∀ a' w' v', Kn a' N ((d, v') :: L) → (∃ b, v' = .slice (some ⟨b, 0, none⟩) n n) → w'.ownsRow w.heap.size e sz v' n (madeCells zv.cells (n * sz)).toList → Ext w w' → K a' w') : acts P ⟨some d, .makeSlice t x y, ty, pos, af, g⟩ K a w := by
  unfold El at hz
  obtain ⟨inf, hq, hz1, hz2, hz3⟩ := info_parts hz
  obtain ⟨w', hrun, ho, hg⟩ := run_make_full (P := P) w w.heap.size t e inf zv sz ht hq hz1 hz2 .i64 .i64 n (by rw [hz3]; exact hb) hn (Nat.le_refl _)
  refine act_v (v := .slice (some ⟨w.heap.size, 0, none⟩) n n) (w' := w') hk rfl hN (by simp [execOp, hk.op hx, hk.op hy, hrun]) fun a' hk' => hK a' w' _ hk' ⟨_, rfl⟩ ho ?_
  exact (Below.refl _ _).grown hg (Nat.le_refl _) (fun k hk => by cases hk)
end
end Go.Proofs.YtidfbboalbchiaaDoor

namespace Go.Proofs.YtidfbboalbchiaaDoor
open Go
theorem sz3 : (Tryd.prog.info? 3).map (·.size) = some 1 := by kernel_rfl
theorem sz4 : (Tryd.prog.info? 4).map (·.size) = some 1 := by kernel_rfl
theorem sz5 : (Tryd.prog.info? 5).map (·.size) = some 1 := by kernel_rfl
theorem sz9 : (Tryd.prog.info? 9).map (·.size) = some 1 := by kernel_rfl
theorem sz22 : (Tryd.prog.info? 22).map (·.size) = some 1 := by kernel_rfl
theorem sz24 : (Tryd.prog.info? 24).map (·.size) = some 32 := by kernel_rfl
theorem sz27 : (Tryd.prog.info? 27).map (·.size) = some 1 := by kernel_rfl
theorem sz29 : (Tryd.prog.info? 29).map (·.size) = some 1 := by kernel_rfl
theorem sz30 : (Tryd.prog.info? 30).map (·.size) = some 8 := by kernel_rfl
theorem sz31 : (Tryd.prog.info? 31).map (·.size) = some 64 := by kernel_rfl
theorem sz32 : (Tryd.prog.info? 32).map (·.size) = some 1 := by kernel_rfl
theorem sz34 : (Tryd.prog.info? 34).map (·.size) = some 73 := by kernel_rfl
theorem sz44 : (Tryd.prog.info? 44).map (·.size) = some 16 := by kernel_rfl
theorem sz45 : (Tryd.prog.info? 45).map (·.size) = some 1 := by kernel_rfl
theorem sz60 : (Tryd.prog.info? 60).map (·.size) = some 2 := by kernel_rfl
theorem sz64 : (Tryd.prog.info? 64).map (·.size) = some 1 := by kernel_rfl
theorem sz66 : (Tryd.prog.info? 66).map (·.size) = some 2 := by kernel_rfl
theorem sz67 : (Tryd.prog.info? 67).map (·.size) = some 1 := by kernel_rfl
theorem sz69 : (Tryd.prog.info? 69).map (·.size) = some 1 := by kernel_rfl
theorem sz71 : (Tryd.prog.info? 71).map (·.size) = some 3 := by kernel_rfl
theorem sz74 : (Tryd.prog.info? 74).map (·.size) = some 3 := by kernel_rfl
theorem sz82 : (Tryd.prog.info? 82).map (·.size) = some 1 := by kernel_rfl
theorem sz86 : (Tryd.prog.info? 86).map (·.size) = some 1 := by kernel_rfl
theorem sz89 : (Tryd.prog.info? 89).map (·.size) = some 1 := by kernel_rfl
theorem sz100 : (Tryd.prog.info? 100).map (·.size) = some 64 := by kernel_rfl
theorem sz105 : (Tryd.prog.info? 105).map (·.size) = some 68 := by kernel_rfl
theorem sz109 : (Tryd.prog.info? 109).map (·.size) = some 1 := by kernel_rfl
theorem sz111 : (Tryd.prog.info? 111).map (·.size) = some 1 := by kernel_rfl
theorem sz113 : (Tryd.prog.info? 113).map (·.size) = some 2 := by kernel_rfl
theorem sz124 : (Tryd.prog.info? 124).map (·.size) = some 1 := by kernel_rfl
theorem sz132 : (Tryd.prog.info? 132).map (·.size) = some 0 := by kernel_rfl
theorem sz139 : (Tryd.prog.info? 139).map (·.size) = some 1 := by kernel_rfl
theorem sz147 : (Tryd.prog.info? 147).map (·.size) = some 33 := by kernel_rfl
theorem sz154 : (Tryd.prog.info? 154).map (·.size) = some 4 := by kernel_rfl
theorem sz157 : (Tryd.prog.info? 157).map (·.size) = some 1 := by kernel_rfl
theorem sz160 : (Tryd.prog.info? 160).map (·.size) = some 1 := by kernel_rfl
theorem sz167 : (Tryd.prog.info? 167).map (·.size) = some 1 := by kernel_rfl
theorem zr3 : (Tryd.prog.info? 3).map (·.zero) = some (some (Value.int .i64 0)) := by kernel_rfl
theorem zr4 : (Tryd.prog.info? 4).map (·.zero) = some (some (.bool false)) := by kernel_rfl
theorem zr5 : (Tryd.prog.info? 5).map (·.zero) = some (some (Value.int .u8 0)) := by kernel_rfl
theorem zr9 : (Tryd.prog.info? 9).map (·.zero) = some (some (.string ByteArray.empty)) := by kernel_rfl
theorem zr22 : (Tryd.prog.info? 22).map (·.zero) = some (some (.slice none 0 0)) := by kernel_rfl
theorem zr24 : (Tryd.prog.info? 24).map (·.zero) = some (some (.agg (List.replicate 32 (Value.int .u8 0)).toArray)) := by kernel_rfl
theorem zr27 : (Tryd.prog.info? 27).map (·.zero) = some (some (.slice none 0 0)) := by kernel_rfl
theorem zr29 : (Tryd.prog.info? 29).map (·.zero) = some (some (Value.int .u32 0)) := by kernel_rfl
theorem zr30 : (Tryd.prog.info? 30).map (·.zero) = some (some (.agg (List.replicate 8 (Value.int .u32 0)).toArray)) := by kernel_rfl
theorem zr31 : (Tryd.prog.info? 31).map (·.zero) = some (some (.agg (List.replicate 64 (Value.int .u8 0)).toArray)) := by kernel_rfl
theorem zr34 : (Tryd.prog.info? 34).map (·.zero) = some (some (.agg (List.replicate 8 (Value.int .u32 0) ++ List.replicate 64 (Value.int .u8 0) ++ [Value.int .u64 0]).toArray)) := by kernel_rfl
theorem zr44 : (Tryd.prog.info? 44).map (·.zero) = some (some (.agg (List.replicate 16 (Value.int .u8 0)).toArray)) := by kernel_rfl
theorem zr45 : (Tryd.prog.info? 45).map (·.zero) = some (some (.slice none 0 0)) := by kernel_rfl
theorem zr60 : (Tryd.prog.info? 60).map (·.zero) = some (some (.agg (List.replicate 2 (Value.int .u8 0)).toArray)) := by kernel_rfl
theorem zr66 : (Tryd.prog.info? 66).map (·.zero) = some (some (.agg (List.replicate 2 (Value.int .i64 0)).toArray)) := by kernel_rfl
theorem zr69 : (Tryd.prog.info? 69).map (·.zero) = some (some (.slice none 0 0)) := by kernel_rfl
theorem zr71 : (Tryd.prog.info? 71).map (·.zero) = some (some (.agg #[Value.int .i64 0, Value.int .i64 0, .slice none 0 0])) := by kernel_rfl
theorem zr74 : (Tryd.prog.info? 74).map (·.zero) = some (some (.agg #[Value.int .i64 0, Value.int .i64 0, .slice none 0 0])) := by kernel_rfl
theorem zr100 : (Tryd.prog.info? 100).map (·.zero) = some (some (.agg (List.replicate 64 (Value.int .u32 0)).toArray)) := by kernel_rfl
theorem zr105 : (Tryd.prog.info? 105).map (·.zero) = some (some (.agg (List.replicate 68 (Value.int .i64 0)).toArray)) := by kernel_rfl
theorem zr109 : (Tryd.prog.info? 109).map (·.zero) = some (some (.nilFunc)) := by kernel_rfl
theorem zr113 : (Tryd.prog.info? 113).map (·.zero) = some (some (.agg #[.pointer none, .slice none 0 0])) := by kernel_rfl
theorem zr124 : (Tryd.prog.info? 124).map (·.zero) = some (some (.nilFunc)) := by kernel_rfl
theorem zr132 : (Tryd.prog.info? 132).map (·.zero) = some (some (.agg #[])) := by kernel_rfl
theorem zr139 : (Tryd.prog.info? 139).map (·.zero) = some (some (.pointer none)) := by kernel_rfl
theorem zr147 : (Tryd.prog.info? 147).map (·.zero) = some (some (.agg (List.replicate 32 (Value.int .u8 0) ++ [Value.bool false]).toArray)) := by kernel_rfl
theorem zr154 : (Tryd.prog.info? 154).map (·.zero) = some (some (.agg (List.replicate 4 (Value.int .u32 0)).toArray)) := by kernel_rfl
theorem zr157 : (Tryd.prog.info? 157).map (·.zero) = some (some (.map none)) := by kernel_rfl
theorem ok22 : callOk Tryd.prog 22 = true := by kernel_rfl
theorem ok23 : callOk Tryd.prog 23 = true := by kernel_rfl
theorem ok24 : callOk Tryd.prog 24 = true := by kernel_rfl
theorem ok25 : callOk Tryd.prog 25 = true := by kernel_rfl
theorem ok26 : callOk Tryd.prog 26 = true := by kernel_rfl
theorem ok27 : callOk Tryd.prog 27 = true := by kernel_rfl
theorem ok28 : callOk Tryd.prog 28 = true := by kernel_rfl
theorem ok29 : callOk Tryd.prog 29 = true := by kernel_rfl
theorem ok30 : callOk Tryd.prog 30 = true := by kernel_rfl
theorem ok31 : callOk Tryd.prog 31 = true := by kernel_rfl
theorem ok32 : callOk Tryd.prog 32 = true := by kernel_rfl
theorem ok33 : callOk Tryd.prog 33 = true := by kernel_rfl
theorem ok34 : callOk Tryd.prog 34 = true := by kernel_rfl
theorem ok35 : callOk Tryd.prog 35 = true := by kernel_rfl
theorem ok36 : callOk Tryd.prog 36 = true := by kernel_rfl
theorem ok37 : callOk Tryd.prog 37 = true := by kernel_rfl
theorem ok38 : callOk Tryd.prog 38 = true := by kernel_rfl
theorem ok39 : callOk Tryd.prog 39 = true := by kernel_rfl
theorem ok40 : callOk Tryd.prog 40 = true := by kernel_rfl
theorem ok41 : callOk Tryd.prog 41 = true := by kernel_rfl
theorem ok42 : callOk Tryd.prog 42 = true := by kernel_rfl
theorem ok43 : callOk Tryd.prog 43 = true := by kernel_rfl
theorem ok44 : callOk Tryd.prog 44 = true := by kernel_rfl
theorem ok45 : callOk Tryd.prog 45 = true := by kernel_rfl
theorem ok46 : callOk Tryd.prog 46 = true := by kernel_rfl
theorem ok47 : callOk Tryd.prog 47 = true := by kernel_rfl
theorem ok48 : callOk Tryd.prog 48 = true := by kernel_rfl
theorem ok49 : callOk Tryd.prog 49 = true := by kernel_rfl
theorem ok50 : callOk Tryd.prog 50 = true := by kernel_rfl
theorem ok51 : callOk Tryd.prog 51 = true := by kernel_rfl
theorem ok52 : callOk Tryd.prog 52 = true := by kernel_rfl
theorem ok53 : callOk Tryd.prog 53 = true := by kernel_rfl
theorem ok54 : callOk Tryd.prog 54 = true := by kernel_rfl
theorem ok55 : callOk Tryd.prog 55 = true := by kernel_rfl
theorem ok56 : callOk Tryd.prog 56 = true := by kernel_rfl
theorem ok57 : callOk Tryd.prog 57 = true := by kernel_rfl
theorem ok58 : callOk Tryd.prog 58 = true := by kernel_rfl
theorem ok59 : callOk Tryd.prog 59 = true := by kernel_rfl
theorem ok60 : callOk Tryd.prog 60 = true := by kernel_rfl
theorem ok61 : callOk Tryd.prog 61 = true := by kernel_rfl
theorem ok62 : callOk Tryd.prog 62 = true := by kernel_rfl
theorem ok63 : callOk Tryd.prog 63 = true := by kernel_rfl
theorem ok64 : callOk Tryd.prog 64 = true := by kernel_rfl
theorem ok65 : callOk Tryd.prog 65 = true := by kernel_rfl
theorem ok66 : callOk Tryd.prog 66 = true := by kernel_rfl
theorem ok67 : callOk Tryd.prog 67 = true := by kernel_rfl
theorem ok68 : callOk Tryd.prog 68 = true := by kernel_rfl
theorem ok69 : callOk Tryd.prog 69 = true := by kernel_rfl
theorem ok70 : callOk Tryd.prog 70 = true := by kernel_rfl
theorem ok71 : callOk Tryd.prog 71 = true := by kernel_rfl
theorem ok72 : callOk Tryd.prog 72 = true := by kernel_rfl
theorem ok73 : callOk Tryd.prog 73 = true := by kernel_rfl
theorem ok74 : callOk Tryd.prog 74 = true := by kernel_rfl
theorem ok75 : callOk Tryd.prog 75 = true := by kernel_rfl
theorem ok76 : callOk Tryd.prog 76 = true := by kernel_rfl
theorem ok77 : callOk Tryd.prog 77 = true := by kernel_rfl
theorem ok78 : callOk Tryd.prog 78 = true := by kernel_rfl
theorem ok79 : callOk Tryd.prog 79 = true := by kernel_rfl
theorem ok80 : callOk Tryd.prog 80 = true := by kernel_rfl
theorem ok81 : callOk Tryd.prog 81 = true := by kernel_rfl
theorem ok82 : callOk Tryd.prog 82 = true := by kernel_rfl
theorem ok83 : callOk Tryd.prog 83 = true := by kernel_rfl
theorem ok84 : callOk Tryd.prog 84 = true := by kernel_rfl
theorem ok85 : callOk Tryd.prog 85 = true := by kernel_rfl
theorem ok86 : callOk Tryd.prog 86 = true := by kernel_rfl
theorem ok87 : callOk Tryd.prog 87 = true := by kernel_rfl
theorem ok88 : callOk Tryd.prog 88 = true := by kernel_rfl
theorem ok89 : callOk Tryd.prog 89 = true := by kernel_rfl
theorem ok90 : callOk Tryd.prog 90 = true := by kernel_rfl
theorem ok91 : callOk Tryd.prog 91 = true := by kernel_rfl
theorem ok92 : callOk Tryd.prog 92 = true := by kernel_rfl
theorem ok93 : callOk Tryd.prog 93 = true := by kernel_rfl
theorem ok94 : callOk Tryd.prog 94 = true := by kernel_rfl
theorem ok95 : callOk Tryd.prog 95 = true := by kernel_rfl
theorem ok96 : callOk Tryd.prog 96 = true := by kernel_rfl
theorem ok97 : callOk Tryd.prog 97 = true := by kernel_rfl
theorem ok98 : callOk Tryd.prog 98 = true := by kernel_rfl
theorem ok99 : callOk Tryd.prog 99 = true := by kernel_rfl
theorem ok100 : callOk Tryd.prog 100 = true := by kernel_rfl
theorem ok101 : callOk Tryd.prog 101 = true := by kernel_rfl
theorem ok102 : callOk Tryd.prog 102 = true := by kernel_rfl
theorem ok103 : callOk Tryd.prog 103 = true := by kernel_rfl
theorem ok104 : callOk Tryd.prog 104 = true := by kernel_rfl
theorem ok105 : callOk Tryd.prog 105 = true := by kernel_rfl
theorem ok106 : callOk Tryd.prog 106 = true := by kernel_rfl
theorem ok107 : callOk Tryd.prog 107 = true := by kernel_rfl
theorem ok108 : callOk Tryd.prog 108 = true := by kernel_rfl
theorem ok109 : callOk Tryd.prog 109 = true := by kernel_rfl
theorem ok110 : callOk Tryd.prog 110 = true := by kernel_rfl
theorem ok111 : callOk Tryd.prog 111 = true := by kernel_rfl
theorem ok112 : callOk Tryd.prog 112 = true := by kernel_rfl
theorem ok113 : callOk Tryd.prog 113 = true := by kernel_rfl
theorem ok114 : callOk Tryd.prog 114 = true := by kernel_rfl
theorem ok115 : callOk Tryd.prog 115 = true := by kernel_rfl
theorem ok116 : callOk Tryd.prog 116 = true := by kernel_rfl
theorem ok117 : callOk Tryd.prog 117 = true := by kernel_rfl
theorem ok118 : callOk Tryd.prog 118 = true := by kernel_rfl
theorem ok119 : callOk Tryd.prog 119 = true := by kernel_rfl
theorem ok120 : callOk Tryd.prog 120 = true := by kernel_rfl
theorem ok121 : callOk Tryd.prog 121 = true := by kernel_rfl
theorem ok122 : callOk Tryd.prog 122 = true := by kernel_rfl
theorem ok123 : callOk Tryd.prog 123 = true := by kernel_rfl
theorem ok124 : callOk Tryd.prog 124 = true := by kernel_rfl
theorem ok125 : callOk Tryd.prog 125 = true := by kernel_rfl
theorem ok126 : callOk Tryd.prog 126 = true := by kernel_rfl
theorem ok127 : callOk Tryd.prog 127 = true := by kernel_rfl
theorem ok128 : callOk Tryd.prog 128 = true := by kernel_rfl
theorem ok129 : callOk Tryd.prog 129 = true := by kernel_rfl
theorem ok130 : callOk Tryd.prog 130 = true := by kernel_rfl
theorem ok131 : callOk Tryd.prog 131 = true := by kernel_rfl
theorem ok132 : callOk Tryd.prog 132 = true := by kernel_rfl
theorem ok134 : callOk Tryd.prog 134 = true := by kernel_rfl
theorem ok135 : callOk Tryd.prog 135 = true := by kernel_rfl
theorem ok136 : callOk Tryd.prog 136 = true := by kernel_rfl
theorem ok137 : callOk Tryd.prog 137 = true := by kernel_rfl
theorem ok138 : callOk Tryd.prog 138 = true := by kernel_rfl
theorem nz3 : ((Tryd.prog.info? 3).map fun i => i.size == 0) = some false := by kernel_rfl -- nz32
theorem nz4 : ((Tryd.prog.info? 4).map fun i => i.size == 0) = some false := by kernel_rfl -- nz32
theorem nz5 : ((Tryd.prog.info? 5).map fun i => i.size == 0) = some false := by kernel_rfl -- nz32
theorem nz22 : ((Tryd.prog.info? 22).map fun i => i.size == 0) = some false := by kernel_rfl -- nz32
theorem nz27 : ((Tryd.prog.info? 27).map fun i => i.size == 0) = some false := by kernel_rfl -- nz32
theorem nz29 : ((Tryd.prog.info? 29).map fun i => i.size == 0) = some false := by kernel_rfl -- nz32
theorem nz30 : ((Tryd.prog.info? 30).map fun i => i.size == 0) = some false := by kernel_rfl -- nz32
theorem nz31 : ((Tryd.prog.info? 31).map fun i => i.size == 0) = some false := by kernel_rfl -- nz32
theorem nz32 : ((Tryd.prog.info? 32).map fun i => i.size == 0) = some false := by kernel_rfl -- nz32
theorem nz44 : ((Tryd.prog.info? 44).map fun i => i.size == 0) = some false := by kernel_rfl -- nz32
theorem nz66 : ((Tryd.prog.info? 66).map fun i => i.size == 0) = some false := by kernel_rfl -- nz32
theorem nz69 : ((Tryd.prog.info? 69).map fun i => i.size == 0) = some false := by kernel_rfl -- nz32
theorem nz111 : ((Tryd.prog.info? 111).map fun i => i.size == 0) = some false := by kernel_rfl -- nz32
theorem nz139 : ((Tryd.prog.info? 139).map fun i => i.size == 0) = some false := by kernel_rfl -- nz32
theorem el5 : El Tryd.prog 5 (Value.int .u8 0) 1 1 := by unfold El; kernel_rfl
theorem el9 : El Tryd.prog 9 (Value.string ByteArray.empty) 1 16 := by unfold El; kernel_rfl
theorem el3 : El Tryd.prog 3 (Value.int .i64 0) 1 8 := by unfold El; kernel_rfl
theorem el44 : El Tryd.prog 44 (.agg (List.replicate 16 (Value.int .u8 0)).toArray) 16 16 := by unfold El; kernel_rfl
theorem el66 : El Tryd.prog 66 (.agg (List.replicate 2 (Value.int .i64 0)).toArray) 2 16 := by unfold El; kernel_rfl
theorem el27 : El Tryd.prog 27 (.slice none 0 0) 1 24 := by unfold El; kernel_rfl
theorem el69 : El Tryd.prog 69 (.slice none 0 0) 1 24 := by unfold El; kernel_rfl
theorem mixed : Tryd.prog.follows .mixedOrders = true := by kernel_rfl
end Go.Proofs.YtidfbboalbchiaaDoor
