/- A region that draws its order of evaluation: when its operations commute but for the order that its edges force, one walk in a chosen order is enough. Conditions: each operation of the region runs to its end there. -/
import Derived.Orders
import Derived.OrdersHeld
import Derived.Laws.World
import Derived.KernelRfl
namespace Go.Proofs.YtidfbboalbchiaaDoor
open Go

section
variable {P : Program} {ops : Array Oper} {S : World → Prop}

/-- An operation that runs to its end: a value, nothing, or a call that returns. -/
def acts (P : Program) (o : Oper) (K : Act → World → Prop) (a : Act) (w : World) : Prop :=
  (∃ u w', (execOp a.eval o).run P w = .ok (.value u) w' ∧ K (a.put o.dst u) w') ∨
  (∃ w', (execOp a.eval o).run P w = .ok .skip w' ∧ K (a.put o.dst undef) w') ∨
  (∃ f args w', (execOp a.eval o).run P w = .ok (.enter f args) w' ∧ Calls P f args w' fun e w'' => ∃ u, e = .returned u ∧ K (a.put o.dst u) w'')

/-- By class: 0 a value in whatever world; 1 a value in this world, which stays; 3 a value in every world that meets S; 2 it acts; 4 it acts, and S holds before and behind it. -/
def okOp (P : Program) (S : World → Prop) (c : Nat) (o : Oper) (K : Act → World → Prop) (a : Act) (w : World) : Prop :=
  match c with
  | 0 => ∃ u, (∀ w, (execOp a.eval o).run P w = .ok (.value u) w) ∧ K (a.put o.dst u) w
  | 1 => ∃ u, (execOp a.eval o).run P w = .ok (.value u) w ∧ K (a.put o.dst u) w
  | 3 => ∃ u, (∀ w, S w → (execOp a.eval o).run P w = .ok (.value u) w) ∧ S w ∧ K (a.put o.dst u) w
  | 2 => acts P o K a w
  | _ => S w ∧ acts P o (fun a' w' => S w' ∧ K a' w') a w

def wOp (P : Program) (ops : Array Oper) (S : World → Prop) (c : Nat) (o : Oper) (K : Act → World → Prop) (a : Act) (w : World) : Prop :=
  if Region.wanted o (yielded ops a.tmps) = true then okOp P S c o K a w else K (a.put o.dst undef) w

theorem acts.mono {o : Oper} {K K' : Act → World → Prop} {a : Act} {w : World} (h : acts P o K a w) (hk : ∀ a w, K a w → K' a w) : acts P o K' a w := by
  rcases h with ⟨u, w', h1, h2⟩ | ⟨w', h1, h2⟩ | ⟨f, args, w', h1, h2⟩
  · exact .inl ⟨u, w', h1, hk _ _ h2⟩
  · exact .inr (.inl ⟨w', h1, hk _ _ h2⟩)
  · exact .inr (.inr ⟨f, args, w', h1, h2.mono fun e w'' ⟨u, he, hu⟩ => ⟨u, he, hk _ _ hu⟩⟩)

theorem okOp.mono {c : Nat} {o : Oper} {K K' : Act → World → Prop} {a : Act} {w : World} (h : okOp P S c o K a w) (hk : ∀ a w, K a w → K' a w) : okOp P S c o K' a w := by
  unfold okOp at *
  split at h
  · obtain ⟨u, h1, h2⟩ := h; exact ⟨u, h1, hk _ _ h2⟩
  · obtain ⟨u, h1, h2⟩ := h; exact ⟨u, h1, hk _ _ h2⟩
  · obtain ⟨u, h1, h2, h3⟩ := h; exact ⟨u, h1, h2, hk _ _ h3⟩
  · exact acts.mono h hk
  · exact ⟨h.1, acts.mono h.2 fun a w ⟨x, y⟩ => ⟨x, hk _ _ y⟩⟩

theorem wOp.mono {c : Nat} {o : Oper} {K K' : Act → World → Prop} {a : Act} {w : World} (h : wOp P ops S c o K a w) (hk : ∀ a w, K a w → K' a w) : wOp P ops S c o K' a w := by
  unfold wOp at *
  split at h
  · rename_i hw; rw [if_pos hw]; exact h.mono hk
  · rename_i hw; rw [if_neg hw]; exact hk _ _ h

/-- It is a step of the kit's walk. -/
theorem wOp.wpOp {Q : Exit → Act → World → Prop} {c i : Nat} {o : Oper} {K : Act → World → Prop} {a : Act} {w : World} (ho : ops[i]? = some o) (h : wOp P ops S c o K a w) : Go.wpOp P ops Q i K a w := by
  have key : ∀ (K : Act → World → Prop) (a : Act) (w : World), acts P o K a w → o.wp P a w K Q := by
    intro K a w h
    unfold Oper.wp
    rcases h with ⟨u, w', h1, h2⟩ | ⟨w', h1, h2⟩ | ⟨f, args, w', h1, h2⟩
    · rw [h1]; exact h2
    · rw [h1]; exact h2
    · rw [h1]
      exact h2.mono fun e w'' ⟨u, he, hu⟩ => by subst he; exact hu
  unfold Go.wpOp
  simp only [ho]
  unfold wOp at h
  split at h
  · rename_i hw
    rw [if_pos hw]
    refine .inl ?_
    unfold okOp at h
    split at h
    · obtain ⟨u, h1, h2⟩ := h; exact key _ _ _ (.inl ⟨u, w, h1 w, h2⟩)
    · obtain ⟨u, h1, h2⟩ := h; exact key _ _ _ (.inl ⟨u, w, h1, h2⟩)
    · obtain ⟨u, h1, h2, h3⟩ := h; exact key _ _ _ (.inl ⟨u, w, h1 w h2, h3⟩)
    · exact key _ _ _ h
    · exact key _ _ _ (acts.mono h.2 fun a w x => x.2)
  · rename_i hw
    rw [if_neg hw]
    exact h

/-! ### Two operations that are apart -/

/-- x yields u in every world that meets T, in state a (or it is not wanted there). -/
def Yl (P : Program) (ops : Array Oper) (T : World → Prop) (x : Oper) (u : Value) (a : Act) : Prop := YieldsIf P ops T x u a

theorem Yl.put {T : World → Prop} {x y : Oper} {u : Value} {a : Act} (hs : ∀ cs b, x.op ≠ .select cs b) (h3 : ∀ d, y.dst = some d → d ∉ x.looksAt ops) (v : Value) :
    Yl P ops T x u (a.put y.dst v) ↔ Yl P ops T x u a := by
  unfold Yl YieldsIf
  rw [execOp_put (ops := ops) x hs a y.dst v h3, wanted_put x a y.dst v h3]

/-- The world's condition under which the value of an operation of class 0, 1, 3 stands. -/
def cond (S : World → Prop) (w : World) : Nat → World → Prop
  | 0 => fun _ => True
  | 1 => fun w' => w' = w
  | _ => S

def isY (c : Nat) : Bool := c == 0 || c == 1 || c == 3

theorem yOf {c : Nat} {o : Oper} {K : Act → World → Prop} {a : Act} {w : World} (hc : isY c = true) (h : wOp P ops S c o K a w) :
    ∃ u, Yl P ops (cond S w c) o u a ∧ (Region.wanted o (yielded ops a.tmps) = true → cond S w c w) ∧ K (a.put o.dst u) w := by
  unfold wOp at h
  by_cases hw : Region.wanted o (yielded ops a.tmps) = true
  · rw [if_pos hw] at h
    unfold okOp at h
    split at h
    · obtain ⟨u, h1, h2⟩ := h; exact ⟨u, .inl ⟨hw, fun w _ => h1 w⟩, fun _ => trivial, h2⟩
    · obtain ⟨u, h1, h2⟩ := h; exact ⟨u, .inl ⟨hw, fun w' (e : w' = w) => e ▸ h1⟩, fun _ => rfl, h2⟩
    · obtain ⟨u, h1, h2, h3⟩ := h; exact ⟨u, .inl ⟨hw, h1⟩, fun _ => h2, h3⟩
    · simp [isY] at hc
    · rename_i c' h0 h1 h2 h3
      simp [isY] at hc
      rcases hc with (hc | hc) | hc <;> simp_all
  · rw [if_neg hw] at h
    exact ⟨undef, .inr ⟨by simpa using hw, rfl⟩, fun h' => absurd h' hw, h⟩

theorem ofY {c : Nat} {o : Oper} {K : Act → World → Prop} {a : Act} {w : World} {u : Value} (hc : isY c = true) (hy : Yl P ops (cond S w c) o u a)
    (hT : Region.wanted o (yielded ops a.tmps) = true → cond S w c w) (h : K (a.put o.dst u) w) : wOp P ops S c o K a w := by
  unfold wOp
  rcases hy with ⟨hw, hy⟩ | ⟨hw, rfl⟩
  · rw [if_pos hw]
    simp [isY] at hc
    rcases hc with (hc | hc) | hc <;> subst hc <;> simp only [okOp]
    · exact ⟨u, fun w => hy w trivial, h⟩
    · exact ⟨u, hy w rfl, h⟩
    · exact ⟨u, hy, hT hw, h⟩
  · rw [if_neg (by simp [hw])]
    exact h

theorem okOp.act {c : Nat} {o : Oper} {K : Act → World → Prop} {a : Act} {w : World} (hc : isY c = false) :
    okOp P S c o K a w ↔ (c = 2 ∧ acts P o K a w) ∨ (c ≠ 2 ∧ S w ∧ acts P o (fun a' w' => S w' ∧ K a' w') a w) := by
  unfold okOp
  split
  · simp [isY] at hc
  · simp [isY] at hc
  · simp [isY] at hc
  · simp
  · rename_i h0 h1 h3 h2
    constructor
    · exact fun h => .inr ⟨h2, h⟩
    · rintro (⟨h, _⟩ | ⟨_, h⟩)
      · exact absurd h h2
      · exact h

/-- May two operations that are apart be exchanged? -/
def commB (c d : Nat) : Bool := c == 0 || d == 0 || (isY c && isY d) || (c == 3 && d == 4) || (c == 4 && d == 3)

theorem commB_symm (c d : Nat) : commB c d = commB d c := by
  unfold commB
  cases h1 : (c == 0) <;> cases h2 : (d == 0) <;> cases h3 : isY c <;> cases h4 : isY d <;> cases h5 : (c == 3) <;> cases h6 : (d == 4) <;> cases h7 : (c == 4) <;> cases h8 : (d == 3) <;> rfl

/-- First x, a value; then y, which may act. The other way round it comes to the same. -/
theorem comm_ya {T : World → Prop} {x y : Oper} {u : Value} {K : Act → World → Prop} {a : Act} {w : World}
    (hap : x.apart ops y = true) (hsx : ∀ cs b, x.op ≠ .select cs b) (hsy : ∀ cs b, y.op ≠ .select cs b)
    (hy : Yl P ops T x u a) (h : acts P y (fun a' w' => T w' ∧ K a' w') (a.put x.dst u) w) :
    acts P y (fun a' w' => T w' ∧ Yl P ops T x u a' ∧ K (a'.put x.dst u) w') a w := by
  obtain ⟨h1, h2, h3⟩ := Oper.apart_spec hap
  have e : execOp (a.put x.dst u).eval y = execOp a.eval y := execOp_put (ops := ops) y hsy a x.dst u h1
  have pc : ∀ v, (a.put x.dst u).put y.dst v = (a.put y.dst v).put x.dst u := fun v => Act.put_comm a u v h2
  unfold acts at *
  rw [e] at h
  rcases h with ⟨v, w', r, ht, k⟩ | ⟨w', r, ht, k⟩ | ⟨f, args, w', r, k⟩
  · exact .inl ⟨v, w', r, ht, (Yl.put hsx h3 v).2 hy, pc v ▸ k⟩
  · exact .inr (.inl ⟨w', r, ht, (Yl.put hsx h3 _).2 hy, pc _ ▸ k⟩)
  · exact .inr (.inr ⟨f, args, w', r, k.mono fun e w'' ⟨v, he, ht, k⟩ => ⟨v, he, ht, (Yl.put hsx h3 v).2 hy, pc v ▸ k⟩⟩)

theorem Yl.det {T : World → Prop} {x : Oper} {u v : Value} {a : Act} {w : World} (hT : Region.wanted x (yielded ops a.tmps) = true → T w) (h : Yl P ops T x u a) (k : Yl P ops T x v a) : u = v := by
  rcases h with ⟨hw, h⟩ | ⟨hw, rfl⟩ <;> rcases k with ⟨kw, k⟩ | ⟨kw, rfl⟩
  · have := (h w (hT hw)).symm.trans (k w (hT hw))
    simpa using this
  · simp_all
  · simp_all
  · rfl

/-- First y, which may act; then x, a value. -/
theorem comm_ay {T : World → Prop} {x y : Oper} {K : Act → World → Prop} {a : Act} {w : World}
    (hap : x.apart ops y = true) (hsx : ∀ cs b, x.op ≠ .select cs b) (hsy : ∀ cs b, y.op ≠ .select cs b)
    (h : acts P y (fun a' w' => ∃ u, Yl P ops T x u a' ∧ (Region.wanted x (yielded ops a'.tmps) = true → T w') ∧ K (a'.put x.dst u) w') a w) :
    ∃ u, Yl P ops T x u a ∧ acts P y K (a.put x.dst u) w := by
  obtain ⟨h1, h2, h3⟩ := Oper.apart_spec hap
  have e : ∀ u, execOp (a.put x.dst u).eval y = execOp a.eval y := fun u => execOp_put (ops := ops) y hsy a x.dst u h1
  have pc : ∀ u v, (a.put x.dst u).put y.dst v = (a.put y.dst v).put x.dst u := fun u v => Act.put_comm a u v h2
  have hwx : ∀ v, Region.wanted x (yielded ops (a.put y.dst v).tmps) = Region.wanted x (yielded ops a.tmps) := fun v => wanted_put x a y.dst v h3
  unfold acts at *
  rcases h with ⟨v, w', r, u, hy, ht, k⟩ | ⟨w', r, u, hy, ht, k⟩ | ⟨f, args, w', r, k⟩
  · exact ⟨u, (Yl.put hsx h3 v).1 hy, .inl ⟨v, w', by rw [e]; exact r, pc u v ▸ k⟩⟩
  · exact ⟨u, (Yl.put hsx h3 _).1 hy, .inr (.inl ⟨w', by rw [e]; exact r, pc u _ ▸ k⟩)⟩
  · obtain ⟨e0, w0, _, ⟨v0, he0, u, hy0, ht0, _⟩, _⟩ := k []
    have hy := (Yl.put hsx h3 v0).1 hy0
    refine ⟨u, hy, .inr (.inr ⟨f, args, w', by rw [e]; exact r, k.mono fun e1 w1 ⟨v, he, u', hy', ht', k⟩ => ?_⟩)⟩
    have hy'' := (Yl.put hsx h3 v).1 hy'
    have hu : u = u' := Yl.det (w := w1) (fun hw => ht' (by rw [hwx]; exact hw)) hy hy''
    subst hu
    exact ⟨v, he, pc u v ▸ k⟩

/-- **Two operations that are apart, of classes that may be exchanged.** -/
theorem comm_ok {c d : Nat} {x y : Oper} {K : Act → World → Prop} {a : Act} {w : World} (hc : commB c d = true)
    (hap : x.apart ops y = true) (hsx : ∀ cs b, x.op ≠ .select cs b) (hsy : ∀ cs b, y.op ≠ .select cs b)
    (h : wOp P ops S c x (wOp P ops S d y K) a w) : wOp P ops S d y (wOp P ops S c x K) a w := by
  obtain ⟨h1, h2, h3⟩ := Oper.apart_spec hap
  have hwx : ∀ v, Region.wanted x (yielded ops (a.put y.dst v).tmps) = Region.wanted x (yielded ops a.tmps) := fun v => wanted_put x a y.dst v h3
  have hwy : ∀ v, Region.wanted y (yielded ops (a.put x.dst v).tmps) = Region.wanted y (yielded ops a.tmps) := fun v => wanted_put y a x.dst v h1
  have pc : ∀ u v, (a.put x.dst u).put y.dst v = (a.put y.dst v).put x.dst u := fun u v => Act.put_comm a u v h2
  by_cases hyc : isY c = true
  · obtain ⟨u, hy, hT, k⟩ := yOf hyc h
    by_cases hyd : isY d = true
    · -- both values
      obtain ⟨v, hy2, hT2, k2⟩ := yOf hyd k
      refine ofY hyd ((Yl.put hsy h1 u).1 hy2) (fun hw => hT2 (by rw [hwy]; exact hw)) (ofY hyc ((Yl.put hsx h3 v).2 hy) (fun hw => hT (by rw [← hwx v]; exact hw)) ?_)
      rw [← pc]; exact k2
    · by_cases hw : Region.wanted y (yielded ops a.tmps) = true
      · -- y acts
        unfold wOp at k
        rw [if_pos (by rw [hwy]; exact hw)] at k
        unfold wOp
        rw [if_pos hw]
        have hd4 : c = 0 ∨ (c = 3 ∧ d = 4) := by
          simp [commB, isY] at hc hyd
          rcases hc with ((((hc | hc) | hc) | hc) | hc)
          · exact .inl hc
          · exact absurd hc hyd.1.1
          · obtain ⟨_, h'⟩ := hc
            rcases h' with (h' | h') | h'
            · exact absurd h' hyd.1.1
            · exact absurd h' hyd.1.2
            · exact absurd h' hyd.2
          · exact .inr hc
          · exact absurd hc.2 hyd.2
        rcases hd4 with rfl | ⟨rfl, rfl⟩
        · unfold okOp at k ⊢
          split at k
          · simp [isY] at hyd
          · simp [isY] at hyd
          · simp [isY] at hyd
          · exact (comm_ya (T := fun _ => True) hap hsx hsy hy (acts.mono k fun a w h => ⟨trivial, h⟩)).mono fun a' w' ⟨_, hy', k'⟩ => ofY (S := S) (c := 0) rfl hy' (fun _ => trivial) k'
          · refine ⟨k.1, (comm_ya (T := fun _ => True) (K := fun a' w' => S w' ∧ K a' w') hap hsx hsy hy (acts.mono k.2 fun a w h => ⟨trivial, h⟩)).mono fun a' w' ⟨_, hy', k'⟩ => ⟨k'.1, ofY (S := S) (c := 0) rfl hy' (fun _ => trivial) k'.2⟩⟩
        · simp only [okOp] at k ⊢
          exact ⟨k.1, (comm_ya (T := S) hap hsx hsy hy k.2).mono fun a' w' ⟨hs, hy', k'⟩ => ⟨hs, ofY (c := 3) rfl hy' (fun _ => hs) k'⟩⟩
      · unfold wOp at k
        rw [if_neg (by rw [hwy]; exact hw)] at k
        unfold wOp
        rw [if_neg hw]
        refine ofY hyc ((Yl.put hsx h3 _).2 hy) (fun hw' => hT (by rw [← hwx undef]; exact hw')) ?_
        rw [← pc]; exact k
  · -- x acts, y is a value
    have hd : isY d = true := by
      simp [commB, isY] at hc hyc ⊢
      rcases hc with ((((hc | hc) | hc) | hc) | hc)
      · exact absurd hc hyc.1.1
      · exact .inl (.inl hc)
      · exact hc.2
      · exact absurd hc.1 hyc.2
      · exact .inr hc.2
    have hd' : d = 0 ∨ (d = 3 ∧ c = 4) := by
      simp [commB, isY] at hc hyc
      rcases hc with ((((hc | hc) | hc) | hc) | hc)
      · exact absurd hc hyc.1.1
      · exact .inl hc
      · obtain ⟨h', _⟩ := hc
        rcases h' with (h' | h') | h'
        · exact absurd h' hyc.1.1
        · exact absurd h' hyc.1.2
        · exact absurd h' hyc.2
      · exact absurd hc.1 hyc.2
      · exact .inr ⟨hc.2, hc.1⟩
    have hap' : y.apart ops x = true := by
      unfold Oper.apart
      rw [Bool.and_eq_true]
      constructor
      · cases hy : y.dst with
        | none => rfl
        | some e =>
          simp
          exact ⟨h3 e hy, fun h' => h2 e h' hy⟩
      · cases hx : x.dst with
        | none => rfl
        | some e => simpa using h1 e hx
    by_cases hw : Region.wanted x (yielded ops a.tmps) = true
    · unfold wOp at h
      rw [if_pos hw] at h
      have key : ∀ (T : World → Prop) (K' : Act → World → Prop), (∀ a w, wOp P ops S d y K a w → ∃ u, Yl P ops T y u a ∧ (Region.wanted y (yielded ops a.tmps) = true → T w) ∧ K (a.put y.dst u) w) → acts P x (wOp P ops S d y K) a w →
          ∃ u, Yl P ops T y u a ∧ acts P x K (a.put y.dst u) w := fun T _ hh k => comm_ay (T := T) hap' hsy hsx (acts.mono k hh)
      rcases hd' with rfl | ⟨rfl, rfl⟩
      · have fin : ∀ u, Yl P ops (fun _ => True) y u a → okOp P S c x K (a.put y.dst u) w → wOp P ops S 0 y (wOp P ops S c x K) a w := fun u hu hk =>
          ofY (c := 0) rfl hu (fun _ => trivial) (by unfold wOp; rw [if_pos (by rw [hwx]; exact hw)]; exact hk)
        have hyf : isY c = false := by simpa using hyc
        rcases (okOp.act hyf).1 h with ⟨h2, h⟩ | ⟨h2, hs0, h⟩
        · obtain ⟨u, hu, hk⟩ := key (fun _ => True) K (fun a w h => yOf (S := S) (c := 0) rfl h) h
          exact fin u hu ((okOp.act hyf).2 (.inl ⟨h2, hk⟩))
        · have h' : acts P x (fun a w => ∃ u, Yl P ops (fun _ => True) y u a ∧ (Region.wanted y (yielded ops a.tmps) = true → True) ∧ (S w ∧ K (a.put y.dst u) w)) a w :=
            acts.mono h fun a w ⟨hs, k⟩ => by obtain ⟨u, a1, a2, a3⟩ := yOf (S := S) (c := 0) rfl k; exact ⟨u, a1, fun _ => trivial, hs, a3⟩
          obtain ⟨u, hu, hk⟩ := comm_ay (T := fun _ => True) (K := fun a w => S w ∧ K a w) hap' hsy hsx h'
          exact fin u hu ((okOp.act hyf).2 (.inr ⟨h2, hs0, hk⟩))
      · simp only [okOp] at h
        have h' : acts P x (fun a w => ∃ u, Yl P ops S y u a ∧ (Region.wanted y (yielded ops a.tmps) = true → S w) ∧ (S w ∧ K (a.put y.dst u) w)) a w :=
          acts.mono h.2 fun a w ⟨hs, k⟩ => by obtain ⟨u, a1, a2, a3⟩ := yOf (c := 3) rfl k; exact ⟨u, a1, fun _ => hs, hs, a3⟩
        obtain ⟨u, hu, hk⟩ := comm_ay (T := S) (K := fun a w => S w ∧ K a w) hap' hsy hsx h'
        refine ofY (c := 3) rfl hu (fun _ => h.1) ?_
        unfold wOp
        rw [if_pos (by rw [hwx]; exact hw)]
        simp only [okOp]
        exact ⟨h.1, hk⟩
    · unfold wOp at h
      rw [if_neg hw] at h
      obtain ⟨v, hv, hT, k⟩ := yOf hd h
      refine ofY hd ((Yl.put hsy h1 _).1 hv) (fun hw' => hT (by rw [hwy]; exact hw')) ?_
      unfold wOp
      rw [if_neg (by rw [hwx]; exact hw)]
      rw [← pc]; exact k

theorem wOp.some {c : Nat} {o : Oper} {K : Act → World → Prop} {a : Act} {w : World} (h : wOp P ops S c o K a w) : ∃ a' w', K a' w' := by
  have key : ∀ (K : Act → World → Prop) (a : Act) (w : World), acts P o K a w → ∃ a' w', K a' w' := by
    intro K a w h
    rcases h with ⟨u, w', _, h⟩ | ⟨w', _, h⟩ | ⟨f, args, w', _, h⟩
    · exact ⟨_, _, h⟩
    · exact ⟨_, _, h⟩
    · obtain ⟨_, _, _, ⟨_, _, h⟩, _⟩ := h []
      exact ⟨_, _, h⟩
  unfold wOp at h
  split at h
  · unfold okOp at h
    split at h
    · obtain ⟨u, _, h⟩ := h; exact ⟨_, _, h⟩
    · obtain ⟨u, _, h⟩ := h; exact ⟨_, _, h⟩
    · obtain ⟨u, _, _, h⟩ := h; exact ⟨_, _, h⟩
    · exact key _ _ _ h
    · obtain ⟨a', w', h⟩ := key _ _ _ h.2; exact ⟨a', w', h.2⟩
  · exact ⟨_, _, h⟩

/-! ### All orders -/
def clAt (cl : List Nat) (i : Nat) : Nat := cl.getD i 2
def upd (d : Nat → Bool) (i : Nat) : Nat → Bool := fun k => Nat.beq k i || d k
theorem upd_comm (d : Nat → Bool) (i j : Nat) : upd (upd d i) j = upd (upd d j) i := by
  funext k; simp only [upd]; cases Nat.beq k i <;> cases Nat.beq k j <;> cases d k <;> rfl
theorem upd_of {d : Nat → Bool} {i k : Nat} (h : d k = true) : upd d i k = true := by simp [upd, h]
theorem upd_self (d : Nat → Bool) (i : Nat) : upd d i i = true := by simp [upd]
theorem upd_ne {d : Nat → Bool} {i k : Nat} (h : k ≠ i) : upd d i k = d k := by simp [upd, h]

def edgesB (d : Nat → Bool) (o : Oper) : Bool := o.after.all fun e => !Region.binds .any e || d e.on
def rdyB (ops : Array Oper) (d : Nat → Bool) (i : Nat) : Bool :=
  match ops[i]? with
  | some o => !d i && edgesB d o
  | none => false
theorem edgesB_iff {d : Nat → Bool} {o : Oper} : edgesB d o = true ↔ ∀ e ∈ o.after, Region.binds .any e = true → d e.on = true := by
  unfold edgesB
  rw [Array.all_eq_true_iff_forall_mem]
  constructor
  · intro h e he hb
    have := h e he
    simpa [hb] using this
  · intro h e he
    cases hb : Region.binds .any e with
    | false => rfl
    | true => simp [h e he hb]
theorem rdy_iff {d : Nat → Bool} {i : Nat} : rdyB ops d i = true ↔ ∃ o, ops[i]? = some o ∧ d i = false ∧ ∀ e ∈ o.after, Region.binds .any e = true → d e.on = true := by
  unfold rdyB
  cases h : ops[i]? with
  | none => simp
  | some o => simp [edgesB_iff]

def okAny (P : Program) (ops : Array Oper) (S : World → Prop) (cl : List Nat) (Z : Act → World → Prop) : Nat → (Nat → Bool) → Act → World → Prop
  | 0, d, a, w => (∀ i, rdyB ops d i = false) ∧ Z a w
  | n + 1, d, a, w => ((∀ i, rdyB ops d i = false) → Z a w) ∧ ∀ i o, ops[i]? = some o → rdyB ops d i = true → wOp P ops S (clAt cl i) o (okAny P ops S cl Z n (upd d i)) a w

theorem getD_both' {listed : Array Bool} {i : Nat} (h : listed.getD i true = false) : listed.getD i false = false := by
  rcases Nat.lt_or_ge i listed.size with h' | h'
  · simp [h'] at h ⊢; exact h
  · simp [Array.getElem?_eq_none h'] at h
theorem okAny.wpAny {Q : Exit → Act → World → Prop} {cl : List Nat} : ∀ (n : Nat) (d : Nat → Bool) (listed : Array Bool) (a : Act) (w : World),
    listed.size = ops.size → (∀ i, listed.getD i false = d i) → okAny P ops S cl (Q .normal) n d a w → Go.wpAny P .any ops Q n listed a w := by
  intro n
  have hrd : ∀ (d : Nat → Bool) (listed : Array Bool), listed.size = ops.size → (∀ i, listed.getD i false = d i) → ∀ i, i ∈ Region.ready .any ops listed ↔ rdyB ops d i = true := by
    intro d listed hs hl i
    rw [mem_ready, rdy_iff]
    constructor
    · rintro ⟨h1, o, ho, h2⟩
      refine ⟨o, ho, ?_, fun e he hb => by rw [← hl]; exact h2 e he hb⟩
      rw [← hl]; exact getD_both' h1
    · rintro ⟨o, ho, h1, h2⟩
      have hi : i < listed.size := by rw [hs]; exact (Array.getElem?_eq_some_iff.1 ho).1
      refine ⟨?_, o, ho, fun e he hb => by rw [hl]; exact h2 e he hb⟩
      rw [← hl] at h1
      simpa [hi] using h1
  induction n with
  | zero =>
    intro d listed a w hs hl h
    refine ⟨?_, h.2⟩
    rw [List.eq_nil_iff_forall_not_mem]
    intro i hi
    have := (hrd d listed hs hl i).1 hi
    rw [h.1 i] at this
    cases this
  | succ n ih =>
    intro d listed a w hs hl h
    refine ⟨fun hn => h.1 fun i => ?_, fun i hi => ?_⟩
    · cases hr : rdyB ops d i with
      | false => rfl
      | true =>
        have := (hrd d listed hs hl i).2 hr
        rw [hn] at this
        cases this
    · have hr := (hrd d listed hs hl i).1 hi
      obtain ⟨o, ho, _, _⟩ := rdy_iff.1 hr
      refine wOp.wpOp (S := S) (c := clAt cl i) ho ((h.2 i o ho hr).mono fun a' w' h' => ih (upd d i) _ a' w' (by simpa using hs) (fun k => ?_) h')
      have hi' : i < listed.size := by rw [hs]; exact (Array.getElem?_eq_some_iff.1 ho).1
      by_cases hk : k = i
      · subst hk; simp [upd_self, hi']
      · rw [upd_ne hk, ← hl]
        simp [Array.getElem?_setIfInBounds_ne (Ne.symm hk)]

/-- The beginning of a region that draws its order. -/
theorem wp_region_ok {id : Nat} {Q : Exit → Act → World → Prop} {a : Act} {w : World} (S : World → Prop) (cl : List Nat) (hm : P.follows .mixedOrders = true)
    (h : okAny P ops S cl (Q .normal) ops.size (fun _ => false) a w.drew) : (Code.region id ops true).wp P Q a w :=
  wp_region_any hm (okAny.wpAny ops.size (fun _ => false) _ a w.drew (by simp) (fun i => by unfold Array.getD; split <;> simp) h)

def waitsB (ops : Array Oper) : Nat → Nat → Nat → Bool
  | 0, _, _ => false
  | n + 1, j, i => match ops[j]? with
    | some o => o.after.any fun e => Region.binds .any e && (Nat.beq e.on i || waitsB ops n e.on i)
    | none => false

def Closed (ops : Array Oper) (d : Nat → Bool) : Prop := ∀ j o, ops[j]? = some o → d j = true → ∀ e ∈ o.after, Region.binds .any e = true → d e.on = true

theorem waits_done {d : Nat → Bool} (hc : Closed ops d) {i : Nat} : ∀ n j, waitsB ops n j i = true → (∀ o, ops[j]? = some o → ∀ e ∈ o.after, Region.binds .any e = true → d e.on = true) → d i = true := by
  intro n
  induction n with
  | zero => intro j h; simp [waitsB] at h
  | succ n ih =>
    intro j h hd
    unfold waitsB at h
    cases ho : ops[j]? with
    | none => simp [ho] at h
    | some o =>
      simp only [ho] at h
      obtain ⟨e, he, hb⟩ := Array.any_eq_true'.1 h
      simp only [Bool.and_eq_true, Bool.or_eq_true] at hb
      have hde := hd o ho e he hb.1
      rcases hb.2 with h' | h'
      · have : e.on = i := Nat.eq_of_beq_eq_true h'
        rw [← this]; exact hde
      · exact ih e.on h' fun o' ho' => hc e.on o' ho' hde

def ok2 (ops : Array Oper) (cl : List Nat) (i j : Nat) : Bool :=
  waitsB ops ops.size j i || match ops[i]?, ops[j]? with
    | some oi, some oj => oi.apart ops oj && commB (clAt cl i) (clAt cl j)
    | _, _ => true

theorem front_aux {cl : List Nat} {Z : Act → World → Prop} {i : Nat} {oi : Oper} (hi : ops[i]? = some oi) (hsel : ∀ (j : Nat) (o : Oper) cs b, ops[j]? = some o → o.op ≠ .select cs b) :
    ∀ (n : Nat) (d : Nat → Bool) (a : Act) (w : World), Closed ops d → (∀ j oj, ops[j]? = some oj → j ≠ i → d j = false → ok2 ops cl i j = true) → rdyB ops d i = true →
      wOp P ops S (clAt cl i) oi (okAny P ops S cl Z n (upd d i)) a w → okAny P ops S cl Z (n + 1) d a w := by
  have rmono : ∀ (d : Nat → Bool) (i j : Nat), j ≠ i → rdyB ops d j = true → rdyB ops (upd d i) j = true := by
    intro d i j hji h
    obtain ⟨o, ho, h1, h2⟩ := rdy_iff.1 h
    exact rdy_iff.2 ⟨o, ho, by rw [upd_ne hji]; exact h1, fun e he hb => upd_of (h2 e he hb)⟩
  intro n
  induction n with
  | zero =>
    intro d a w _ _ hr H
    refine ⟨fun h => (by rw [h i] at hr; cases hr), fun j oj hj hrj => ?_⟩
    by_cases hji : j = i
    · subst hji
      obtain rfl := Option.some.inj (hi.symm.trans hj)
      exact H
    · obtain ⟨a', w', h', _⟩ := H.some
      have := rmono d i j hji hrj
      rw [h' j] at this
      cases this
  | succ n ih =>
    intro d a w hcl hpair hr H
    refine ⟨fun h => (by rw [h i] at hr; cases hr), fun j oj hj hrj => ?_⟩
    by_cases hji : j = i
    · subst hji
      obtain rfl := Option.some.inj (hi.symm.trans hj)
      exact H
    · obtain ⟨o', ho', hdj, hej⟩ := rdy_iff.1 hrj
      obtain rfl := Option.some.inj (hj.symm.trans ho')
      obtain ⟨oi', hoi', hdi, hei⟩ := rdy_iff.1 hr
      obtain rfl := Option.some.inj (hi.symm.trans hoi')
      have hp := hpair j oj hj hji hdj
      have hw : waitsB ops ops.size j i = false := by
        cases hwb : waitsB ops ops.size j i with
        | false => rfl
        | true =>
          have := waits_done hcl ops.size j hwb (fun o ho => by obtain rfl := Option.some.inj (hj.symm.trans ho); exact hej)
          rw [hdi] at this
          cases this
      unfold ok2 at hp
      simp only [hw, Bool.false_or, hi, hj, Bool.and_eq_true] at hp
      have h1 : wOp P ops S (clAt cl i) oi (wOp P ops S (clAt cl j) oj (okAny P ops S cl Z n (upd (upd d i) j))) a w :=
        H.mono fun a' w' h' => h'.2 j oj hj (rmono d i j hji hrj)
      have h2 := comm_ok hp.2 hp.1 (fun cs b => hsel i oi cs b hi) (fun cs b => hsel j oj cs b hj) h1
      refine h2.mono fun a' w' h' => ih (upd d j) a' w' ?_ ?_ (rmono d j i (Ne.symm hji) hr) (by rw [upd_comm]; exact h')
      · intro k ok hk hdk e he hb
        by_cases hkj : k = j
        · subst hkj
          obtain rfl := Option.some.inj (hj.symm.trans hk)
          exact upd_of (hej e he hb)
        · rw [upd_ne hkj] at hdk
          exact upd_of (hcl k ok hk hdk e he hb)
      · intro k ok hk hki hdk
        by_cases hkj : k = j
        · subst hkj; rw [upd_self] at hdk; cases hdk
        · rw [upd_ne hkj] at hdk
          exact hpair k ok hk hki hdk

def closedB (ops : Array Oper) (d : Nat → Bool) : Bool := (List.range ops.size).all fun j => !d j || match ops[j]? with | some o => edgesB d o | none => true
def selB (ops : Array Oper) : Bool := ops.all fun o => match o.op with | .select .. => false | _ => true
/-- May number i be taken next, whatever order is drawn? -/
def chkB (ops : Array Oper) (cl : List Nat) (d : Nat → Bool) (i : Nat) : Bool :=
  closedB ops d && selB ops && rdyB ops d i && (List.range ops.size).all fun j => Nat.beq j i || d j || ok2 ops cl i j

theorem selB_spec (h : selB ops = true) : ∀ (j : Nat) (o : Oper) cs b, ops[j]? = some o → o.op ≠ .select cs b := by
  intro j o cs b hj he
  unfold selB at h
  have := (Array.all_eq_true_iff_forall_mem.1 h) o (Array.mem_of_getElem? hj)
  rw [he] at this
  cases this

/-- **Number i is taken next.** -/
theorem front {cl : List Nat} {Z : Act → World → Prop} {n : Nat} {d : Nat → Bool} {a : Act} {w : World} (i : Nat) {oi : Oper} (hi : ops[i]? = some oi) (hchk : chkB ops cl d i = true)
    (h : wOp P ops S (clAt cl i) oi (okAny P ops S cl Z n (upd d i)) a w) : okAny P ops S cl Z (n + 1) d a w := by
  unfold chkB at hchk
  simp only [Bool.and_eq_true] at hchk
  obtain ⟨⟨⟨h1, h2⟩, h3⟩, h4⟩ := hchk
  refine front_aux hi (selB_spec h2) n d a w ?_ ?_ h3 h
  · intro j o hj hd e he hb
    have := List.all_eq_true.1 h1 j (List.mem_range.2 (Array.getElem?_eq_some_iff.1 hj).1)
    rw [hd] at this
    simp only [hj] at this
    exact edgesB_iff.1 (by simpa using this) e he hb
  · intro j oj hj hji hdj
    have := List.all_eq_true.1 h4 j (List.mem_range.2 (Array.getElem?_eq_some_iff.1 hj).1)
    have hb : Nat.beq j i = false := by
      cases hb : Nat.beq j i with
      | false => rfl
      | true => exact absurd (Nat.eq_of_beq_eq_true hb) hji
    rw [hb, hdj] at this
    simpa using this

/-- Whichever of these comes next. -/
theorem branch {cl : List Nat} {Z : Act → World → Prop} {n : Nat} {d : Nat → Bool} {a : Act} {w : World} (is : List Nat)
    (hchk : ((List.range ops.size).all fun j => !rdyB ops d j || is.contains j) = true) (hne : (is.any (rdyB ops d)) = true)
    (h : ∀ i ∈ is, ∀ o, ops[i]? = some o → wOp P ops S (clAt cl i) o (okAny P ops S cl Z n (upd d i)) a w) : okAny P ops S cl Z (n + 1) d a w := by
  refine ⟨fun h0 => ?_, fun i o ho hr => h i ?_ o ho⟩
  · obtain ⟨i, _, hi⟩ := List.any_eq_true.1 hne
    rw [h0 i] at hi
    cases hi
  · have := List.all_eq_true.1 hchk i (List.mem_range.2 (Array.getElem?_eq_some_iff.1 ho).1)
    rw [hr] at this
    simpa using this

/-- One of these two comes next. -/
theorem branch2 {cl : List Nat} {Z : Act → World → Prop} {n : Nat} {d : Nat → Bool} {a : Act} {w : World} (i j : Nat) {oi oj : Oper} (hi : ops[i]? = some oi) (hj : ops[j]? = some oj)
    (hchk : ((List.range ops.size).all fun k => !rdyB ops d k || [i, j].contains k) = true) (hne : ([i, j].any (rdyB ops d)) = true)
    (h1 : wOp P ops S (clAt cl i) oi (okAny P ops S cl Z n (upd d i)) a w) (h2 : wOp P ops S (clAt cl j) oj (okAny P ops S cl Z n (upd d j)) a w) : okAny P ops S cl Z (n + 1) d a w :=
  branch [i, j] hchk hne fun k hk o ho => by
    simp at hk
    rcases hk with rfl | rfl
    · obtain rfl := Option.some.inj (hi.symm.trans ho); exact h1
    · obtain rfl := Option.some.inj (hj.symm.trans ho); exact h2

/-- All have come. -/
theorem okDone {cl : List Nat} {Z : Act → World → Prop} {d : Nat → Bool} {a : Act} {w : World} (hd : ((List.range ops.size).all fun j => !rdyB ops d j) = true) (h : Z a w) : ∀ n, okAny P ops S cl Z n d a w := by
  have hn : ∀ i, rdyB ops d i = false := by
    intro i
    cases hr : rdyB ops d i with
    | false => rfl
    | true =>
      obtain ⟨o, ho, _, _⟩ := rdy_iff.1 hr
      have := List.all_eq_true.1 hd i (List.mem_range.2 (Array.getElem?_eq_some_iff.1 ho).1)
      rw [hr] at this
      cases this
  intro n
  cases n with
  | zero => exact ⟨hn, h⟩
  | succ n => exact ⟨fun _ => h, fun i o _ hr => by rw [hn i] at hr; cases hr⟩
theorem okFin {cl : List Nat} {Q : Exit → Act → World → Prop} {n : Nat} {d : Nat → Bool} {a : Act} {w : World} (hd : ((List.range ops.size).all fun j => !rdyB ops d j) = true) (h : Q .normal a w) : okAny P ops S cl (Q .normal) n d a w := okDone hd h n
end
end Go.Proofs.YtidfbboalbchiaaDoor
