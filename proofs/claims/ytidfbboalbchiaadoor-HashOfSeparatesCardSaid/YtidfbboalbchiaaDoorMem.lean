/- The operations that read, make or write memory. Conditions: those that each lemma names. -/
import Derived.Test.YtidfbboalbchiaaDoorOps
import Derived.Laws.CopyOwn
import Derived.Laws.BytesArg
namespace Go.Proofs.YtidfbboalbchiaaDoor
open Go Go.RowKit

/-! ### What becomes of the world -/
abbrev Ext (w w' : World) : Prop := Below w.heap.size w w'
theorem below_at {w w' : World} {C k : Nat} {o : Obj} (h : Below C w w') (hC : k < C) (hk : w.heap[k]? = some o) : w'.heap[k]? = some o := by
  rw [h.block k hC]; exact hk
theorem heap_lt {w : World} {k : Nat} {o : Obj} (hk : w.heap[k]? = some o) : k < w.heap.size := (Array.getElem?_eq_some_iff.1 hk).1
theorem ext_at {w w' : World} {k : Nat} {o : Obj} (h : Ext w w') (hk : w.heap[k]? = some o) : w'.heap[k]? = some o := below_at h (heap_lt hk) hk
theorem ext_cell {w w' : World} {p : Addr} {v : Value} (h : Ext w w') (hc : w.cell? p = some v) : w'.cell? p = some v := by
  rw [h.cell (p := p) (World.block_lt_of_cell? w p hc)]; exact hc
theorem ext_trans {a b c : World} (h : Ext a b) (k : Ext b c) : Ext a c := h.trans (k.mono h.size)
theorem below_ext {C : Nat} {a b c : World} (h : Below C a b) (hC : C ≤ a.heap.size) (k : Ext b c) : Below C a c := h.trans (k.mono (Nat.le_trans hC h.size))
theorem ext_drew (w : World) : Ext w w.drew := (Below.refl _ _).drew

/-- A new block. -/
structure Grew (w w' : World) (b : Nat) (o : Obj) : Prop where
  ge : w.heap.size ≤ b
  at_ : w'.heap[b]? = some o
  ext : Ext w w'
theorem Grew.lt {w w' : World} {b : Nat} {o : Obj} (h : Grew w w' b o) : b < w'.heap.size := heap_lt h.at_
theorem Grew.ne {w w' : World} {b k : Nat} {o o' : Obj} (h : Grew w w' b o) (hk : w.heap[k]? = some o') : k ≠ b := by
  have := heap_lt hk; have := h.ge; omega
theorem grew_alloc (w : World) (o : Obj) : Grew w (w.alloc o) w.heap.size o :=
  ⟨Nat.le_refl _, heap_alloc_new w o, (Below.refl _ _).alloc (Nat.le_refl _) o⟩

/-- One block is written. -/
structure Wrote (w w' : World) (b : Nat) (o : Obj) : Prop where
  at_ : w'.heap[b]? = some o
  other : ∀ k, k ≠ b → w'.heap[k]? = w.heap[k]?
  size : w'.heap.size = w.heap.size
  os : w'.os = w.os
  tape : w'.tape = w.tape
  output : w'.output = w.output
theorem Wrote.keep {w w' : World} {b k : Nat} {o o' : Obj} (h : Wrote w w' b o) (hne : k ≠ b) (hk : w.heap[k]? = some o') : w'.heap[k]? = some o' := by
  rw [h.other k hne]; exact hk
theorem Wrote.cell {w w' : World} {b : Nat} {o : Obj} {p : Addr} {v : Value} (h : Wrote w w' b o) (hne : p.block ≠ b) (hc : w.cell? p = some v) : w'.cell? p = some v := by
  unfold World.cell? at *
  rw [h.other _ hne]; exact hc
theorem Wrote.below {C : Nat} {w0 w w' : World} {b : Nat} {o : Obj} (h : Wrote w w' b o) (hB : Below C w0 w) (hb : C ≤ b) : Below C w0 w' :=
  hB.trans ⟨h.os, h.tape, h.output, Nat.le_of_eq h.size.symm, fun k hk => h.other k (by omega)⟩
theorem wrote_setRow (w : World) (b : Nat) (old cs : Array Value) (t : TypeId) (fr : Nat × Nat) (hg : w.heap[b]? = some (.cells old t fr)) : Wrote w (w.setRow b cs) b (.cells cs t fr) :=
  ⟨setRow_heap w b old cs t fr hg, fun k hk => setRow_other w b k cs hk, by simp, rfl, rfl, rfl⟩

/-- The cells of a slice: n elements of sz cells each. -/
def Rd (w : World) (ad : Option Addr) (n c sz : Nat) (xs : List Value) : Prop :=
  xs.length = n * sz ∧ n ≤ c ∧ ∀ i u, xs[i]? = some u → ∃ b o, ad = some ⟨b, o, none⟩ ∧ w.cell? ⟨b, o + i, none⟩ = some u
theorem Rd.ext {w w' : World} {ad : Option Addr} {n c sz : Nat} {xs : List Value} (h : Rd w ad n c sz xs) (hE : Ext w w') : Rd w' ad n c sz xs :=
  ⟨h.1, h.2.1, fun i u hu => by obtain ⟨b, o, h1, h2⟩ := h.2.2 i u hu; exact ⟨b, o, h1, ext_cell hE h2⟩⟩
theorem Rd.below {C : Nat} {w w' : World} {ad : Option Addr} {n c sz : Nat} {xs : List Value} (h : Rd w ad n c sz xs) (hB : Below C w w') (hC : w.heap.size ≤ C) : Rd w' ad n c sz xs := h.ext (hB.mono hC)
theorem Rd.of_own {w : World} {base : Nat} {e : TypeId} {sz : Nat} {v : Value} {n : Nat} {xs : List Value} (h : w.ownsRow base e sz v n xs) : ∃ ad c, v = .slice ad n c ∧ c ≤ maxLen ∧ Rd w ad n c sz xs := by
  obtain ⟨h1, h2⟩ := h
  rcases h2 with ⟨rfl, rfl⟩ | ⟨b, cap, cur, rfl, _, hg, hn, hm, hs, ht⟩
  · exact ⟨none, 0, rfl, Nat.zero_le _, h1, Nat.le_refl _, fun i u hu => by
      have : xs = [] := List.eq_nil_of_length_eq_zero (by simpa using h1)
      subst this; simp at hu⟩
  · refine ⟨some ⟨b, 0, none⟩, cap, rfl, hm, h1, hn, fun i u hu => ⟨b, 0, rfl, ?_⟩⟩
    rw [Nat.zero_add, cell_of_row w b i cur e (0, 0) hg]
    rw [← ht, List.getElem?_take] at hu
    split at hu
    · simpa using hu
    · cases hu
/-- A block read as a slice from a place on. -/
theorem Rd.of_block {w : World} {b o n c sz : Nat} {cs : Array Value} {t : TypeId} {fr : Nat × Nat} {xs : List Value} (hg : w.heap[b]? = some (.cells cs t fr)) (hl : xs.length = n * sz) (hc : n ≤ c) (hx : ∀ i, i < xs.length → cs[o + i]? = xs[i]?) : Rd w (some ⟨b, o, none⟩) n c sz xs :=
  ⟨hl, hc, fun i u hu => ⟨b, o, rfl, by rw [cell_of_row w b (o + i) cs t fr hg, hx i (List.getElem?_eq_some_iff.1 hu).1]; exact hu⟩⟩
theorem own_ext {w w' : World} {base : Nat} {e : TypeId} {sz : Nat} {v : Value} {n : Nat} {xs : List Value} (h : w.ownsRow base e sz v n xs) (hE : Ext w w') : w'.ownsRow base e sz v n xs := by
  refine ⟨h.1, ?_⟩
  rcases h.2 with hn | ⟨g, cap, cur, rfl, hb, hg, r⟩
  · exact .inl hn
  · exact .inr ⟨g, cap, cur, rfl, hb, ext_at hE hg, r⟩
theorem own_mono {w : World} {base base' : Nat} {e : TypeId} {sz : Nat} {v : Value} {n : Nat} {xs : List Value} (h : w.ownsRow base e sz v n xs) (hb : base' ≤ base) : w.ownsRow base' e sz v n xs := by
  refine ⟨h.1, ?_⟩
  rcases h.2 with hn | ⟨g, cap, cur, rfl, hg, r⟩
  · exact .inl hn
  · exact .inr ⟨g, cap, cur, rfl, Nat.le_trans hb hg, r⟩
theorem own_wrote {w w' : World} {base : Nat} {e : TypeId} {sz : Nat} {v : Value} {n : Nat} {xs : List Value} {b : Nat} {o : Obj} (h : w.ownsRow base e sz v n xs) (hW : Wrote w w' b o) (hne : v.ownBlock ≠ some b) : w'.ownsRow base e sz v n xs := by
  refine ⟨h.1, ?_⟩
  rcases h.2 with hn | ⟨g, cap, cur, rfl, hb, hg, r⟩
  · exact .inl hn
  · exact .inr ⟨g, cap, cur, rfl, hb, hW.keep (fun e => hne (by simp [Value.ownBlock, e])) hg, r⟩

/-! ### An operation that acts -/
section
variable {P : Program} {ops : Array Oper} {Q : Exit → Act → World → Prop} {rest : List Oper} {o : Oper} {a : Act} {w : World} {N : Nat} {L : Fm}
theorem la (hk : Kn a N L) (hw : wt ops L o = some true) (h : acts P o (fun a' w' => wpList P ops Q rest a' w') a w) : wpList P ops Q (o :: rest) a w := by
  unfold wpList
  rw [if_pos (hk.wt hw)]
  refine .inl ?_
  unfold Oper.wp
  rcases h with ⟨u, w', h1, h2⟩ | ⟨w', h1, h2⟩ | ⟨f, args, w', h1, h2⟩
  · rw [h1]; exact h2
  · rw [h1]; exact h2
  · rw [h1]
    exact h2.mono fun e w'' ⟨u, he, hu⟩ => by subst he; exact hu
variable {S : World → Prop} {cl : List Nat} {Z : Act → World → Prop} {n : Nat} {dn : Nat → Bool}
theorem da (i : Nat) (hk : Kn a N L) (hi : ops[i]? = some o) (hc : chkB ops cl dn i = true) (hcl : clAt cl i = 2) (hw : wt ops L o = some true)
    (h : acts P o (fun a' w' => okAny P ops S cl Z n (upd dn i) a' w') a w) : okAny P ops S cl Z (n + 1) dn a w := by
  refine front i hi hc ?_
  unfold wOp
  rw [if_pos (hk.wt hw), hcl]
  exact h
theorem wa {i : Nat} (hk : Kn a N L) (hcl : clAt cl i = 2) (hw : wt ops L o = some true) {K : Act → World → Prop} (h : acts P o K a w) : wOp P ops S (clAt cl i) o K a w := by
  unfold wOp
  rw [if_pos (hk.wt hw), hcl]
  exact h
theorem wa4 {i : Nat} (hk : Kn a N L) (hcl : clAt cl i = 4) (hw : wt ops L o = some true) (hS : S w) {K : Act → World → Prop} (h : acts P o (fun a' w' => S w' ∧ K a' w') a w) : wOp P ops S (clAt cl i) o K a w := by
  unfold wOp
  rw [if_pos (hk.wt hw), hcl]
  exact ⟨hS, h⟩
theorem da4 (i : Nat) (hk : Kn a N L) (hi : ops[i]? = some o) (hc : chkB ops cl dn i = true) (hcl : clAt cl i = 4) (hw : wt ops L o = some true) (hS : S w)
    (h : acts P o (fun a' w' => S w' ∧ okAny P ops S cl Z n (upd dn i) a' w') a w) : okAny P ops S cl Z (n + 1) dn a w := by
  refine front i hi hc ?_
  unfold wOp
  rw [if_pos (hk.wt hw), hcl]
  exact ⟨hS, h⟩
end

section
variable {P : Program} {a : Act} {w : World} {N d : Nat} {L : Fm} {ty : TypeId} {pos : String} {af : Array Edge} {g : Option (Nat × Bool)} {v : Value} {x y z : Operand} {t t' : TypeId} {K : Act → World → Prop} {dst : Option Tmp}

theorem act_v {o : Oper} {w' : World} (hk : Kn a N L) (hd : o.dst = some d) (hN : Nat.blt d N = true) (h : (execOp a.eval o).run P w = .ok (.value v) w') (hK : ∀ a', Kn a' N ((d, v) :: L) → K a' w') : acts P o K a w :=
  .inl ⟨v, w', h, by rw [hd]; exact hK _ (hk.put v hN)⟩
theorem act_s {o : Oper} {w' : World} (hk : Kn a N L) (hd : o.dst = none) (h : (execOp a.eval o).run P w = .ok .skip w') (hK : ∀ a', Kn a' N L → K a' w') : acts P o K a w :=
  .inr (.inl ⟨w', h, by rw [hd]; exact hK _ hk⟩)

/-- A new variable, zero. -/
theorem a_alloc {zv : Value} (hk : Kn a N L) (hN : Nat.blt d N = true) (hz : (P.info? t).map (·.zero) = some (some zv))
    (hK : ∀ a' w' b, Kn a' N ((d, .pointer (some ⟨b, 0, none⟩)) :: L) → Grew w w' b (.cells zv.cells t) → K a' w') : acts P ⟨some d, .alloc t, ty, pos, af, g⟩ K a w := by
  cases hq : P.info? t with
  | none => simp [hq] at hz
  | some inf =>
    have hz' : inf.zero = some zv := by simpa [hq] using hz
    refine act_v (v := .pointer (some ⟨w.heap.size, 0, none⟩)) (w' := w.alloc (.cells zv.cells t)) hk rfl hN ?_ fun a' hk' => hK a' _ _ hk' (grew_alloc _ _)
    simp [execOp, Instr.alloc, zeroValue, typeInfo, hq, hz', newVar, newRow]
/-- A new variable, of a value. -/
theorem a_box (hk : Kn a N L) (hN : Nat.blt d N = true) (hx : ov L x = some v)
    (hK : ∀ a' w' b, Kn a' N ((d, .pointer (some ⟨b, 0, none⟩)) :: L) → Grew w w' b (.cells v.cells t) → K a' w') : acts P ⟨some d, .box t x, ty, pos, af, g⟩ K a w := by
  refine act_v (v := .pointer (some ⟨w.heap.size, 0, none⟩)) (w' := w.alloc (.cells v.cells t)) hk rfl hN ?_ fun a' hk' => hK a' _ _ hk' (grew_alloc _ _)
  simp [execOp, hk.op hx, Instr.box, newVar, newRow]

theorem isAgg_row {dd : TypeDesc} (hu : P.underlying t = some dd) (hd : dd.isRow = false) : (isAgg t).run P w = .ok false w := by
  unfold isAgg
  rw [Sem.run_bind, run_underlying hu w]
  cases dd <;> simp_all [TypeDesc.isRow]
/-- One cell. -/
theorem r_load1 {p : Addr} {dd : TypeDesc} (hk : Kn a N L) (hx : ov L x = some (.pointer (some p))) (hu : P.underlying t = some dd) (hd : dd.isRow = false) (hc : w.cell? p = some v) : Ev P ⟨dst, .load t x, ty, pos, af, g⟩ a w v := by
  simp [Ev, execOp, hk.op hx, Instr.loadAt, Instr.sureAddr, loadVar, isAgg_row hu hd, load, Sem.run, hc]
/-- One cell of a block. -/
theorem r_load {bl o : Nat} {dd : TypeDesc} {cs : Array Value} {tb : TypeId} {fr : Nat × Nat} (hk : Kn a N L) (hx : ov L x = some (.pointer (some ⟨bl, o, none⟩))) (hu : P.underlying t = some dd) (hd : dd.isRow = false) (hb : w.heap[bl]? = some (.cells cs tb fr)) (hc : cs[o]? = some v) : Ev P ⟨dst, .load t x, ty, pos, af, g⟩ a w v :=
  r_load1 hk hx hu hd (by rw [cell_of_row w bl o cs tb fr hb]; exact hc)
/-- A whole block. -/
theorem r_loadB {bl : Nat} {dd : TypeDesc} {cs : Array Value} {tb : TypeId} {fr : Nat × Nat} (hk : Kn a N L) (hx : ov L x = some (.pointer (some ⟨bl, 0, none⟩))) (hb : w.heap[bl]? = some (.cells cs tb fr)) (hu : P.underlying t = some dd) (hd : dd.isRow = true) (hi : (P.info? t).map (·.size) = some cs.size) : Ev P ⟨dst, .load t x, ty, pos, af, g⟩ a w (.agg cs) := by
  have h := run_loadVar_row (P := P) w bl tb t cs fr dd hb hu (by cases dd <;> simp_all [TypeDesc.isRow]) hi
  simp [Ev, execOp, hk.op hx, Instr.loadAt, Instr.sureAddr, h]
/-- Some cells of memory. -/
theorem r_loadR {bl o : Nat} {dd : TypeDesc} {xs : List Value} (hk : Kn a N L) (hx : ov L x = some (.pointer (some ⟨bl, o, none⟩))) (hc : w.rangeAt bl o xs) (hu : P.underlying t = some dd) (hd : dd.isRow = true) (hi : (P.info? t).map (·.size) = some xs.length) : Ev P ⟨dst, .load t x, ty, pos, af, g⟩ a w (.agg xs.toArray) := by
  have h := run_loadVar_mid (P := P) w bl o t xs dd hc hu hd hi
  simp [Ev, execOp, hk.op hx, Instr.loadAt, Instr.sureAddr, h]
theorem range_block {bl o : Nat} {cs : Array Value} {tb : TypeId} {fr : Nat × Nat} {xs : List Value} (hb : w.heap[bl]? = some (.cells cs tb fr)) (hx : ∀ i, i < xs.length → cs[o + i]? = xs[i]?) : w.rangeAt bl o xs := fun j u hu => by
  rw [cell_of_row w bl (o + j) cs tb fr hb, hx j (List.getElem?_eq_some_iff.1 hu).1]; exact hu

/-- A store of one cell. -/
theorem a_store {bl o : Nat} {cs : Array Value} {tb : TypeId} (hk : Kn a N L) (hx : ov L x = some (.pointer (some ⟨bl, o, none⟩))) (hy : ov L y = some v) (h1 : v.oneCell' = true) (hs : (P.info? t).map (·.size) = some 1)
    (hb : w.heap[bl]? = some (.cells cs tb (0, 0))) (ho : o < cs.size) (hK : ∀ a' w', Kn a' N L → Wrote w w' bl (.cells (cs.setIfInBounds o v) tb (0, 0)) → K a' w') : acts P ⟨none, .store t x y, ty, pos, af, g⟩ K a w := by
  refine act_s (w' := w.setRow bl (cs.setIfInBounds o v)) hk rfl ?_ fun a' hk' => hK a' _ hk' (wrote_setRow w bl cs _ tb (0, 0) hb)
  have hcell : w.cell? ⟨bl, o, none⟩ = some cs[o] := by rw [cell_of_row w bl o cs tb (0, 0) hb]; simp [ho]
  have hfro : w.frozen? ⟨bl, o, none⟩ = false := frozen_of_row w bl o cs tb hb
  have hcs : v.cells = #[v] := by cases v <;> simp_all [Value.cells, Value.oneCell']
  have hst : (store ⟨bl, o, none⟩ v).run P w = .ok () (w.setRow bl (cs.setIfInBounds o v)) := by
    rw [run_store P w _ v _ h1, hcell]
    simp [hfro, setCell_eq_setRow w bl o cs tb (0, 0) v hb]
  cases hq : P.info? t with
  | none => simp [hq] at hs
  | some inf =>
    have hs' : inf.size = 1 := by simpa [hq] using hs
    simp [execOp, hk.op hx, hk.op hy, Instr.storeAt, Instr.sureAddr, storeVar, sizeOf, typeInfo, hq, hs', hcs, storeCells, Addr.add_lit, hst]
/-- A store over a part of a block. -/
theorem a_storeR {bl o : Nat} {cs : Array Value} {tb : TypeId} {xs : List Value} (hk : Kn a N L) (hx : ov L x = some (.pointer (some ⟨bl, o, none⟩))) (hy : ov L y = some (.agg xs.toArray)) (h1 : ∀ u ∈ xs, u.oneCell' = true) (hs : (P.info? t).map (·.size) = some xs.length)
    (hb : w.heap[bl]? = some (.cells cs tb (0, 0))) (ho : o + xs.length ≤ cs.size) (hK : ∀ a' w', Kn a' N L → Wrote w w' bl (.cells (cs.toList.take o ++ xs ++ cs.toList.drop (o + xs.length)).toArray tb (0, 0)) → K a' w') : acts P ⟨none, .store t x y, ty, pos, af, g⟩ K a w := by
  refine act_s (w' := w.setRow bl (cs.toList.take o ++ xs ++ cs.toList.drop (o + xs.length)).toArray) hk rfl ?_ fun a' hk' => hK a' _ hk' (wrote_setRow w bl cs _ tb (0, 0) hb)
  have hst := run_storeCells_at P bl o tb xs 0 cs w hb (by simpa using ho) h1
  cases hq : P.info? t with
  | none => simp [hq] at hs
  | some inf =>
    have hs' : inf.size = xs.length := by simpa [hq] using hs
    simp only [Nat.add_zero] at hst
    simp [execOp, hk.op hx, hk.op hy, Instr.storeAt, Instr.sureAddr, storeVar, sizeOf, typeInfo, hq, hs', Value.cells, hst]
/-- A store over a whole block. -/
theorem a_storeB {bl : Nat} {cs cs' : Array Value} {tb : TypeId} (hk : Kn a N L) (hx : ov L x = some (.pointer (some ⟨bl, 0, none⟩))) (hy : ov L y = some (.agg cs')) (h1 : ∀ u ∈ cs', u.oneCell' = true) (hs : (P.info? t).map (·.size) = some cs'.size)
    (hb : w.heap[bl]? = some (.cells cs tb (0, 0))) (ho : cs.size = cs'.size) (hK : ∀ a' w', Kn a' N L → Wrote w w' bl (.cells cs' tb (0, 0)) → K a' w') : acts P ⟨none, .store t x y, ty, pos, af, g⟩ K a w := by
  refine a_storeR (xs := cs'.toList) hk hx (by simpa using hy) (fun u hu => h1 u (by simpa using hu)) (by simpa using hs) hb (by simp [ho]) fun a' w' hk' hW => hK a' w' hk' ?_
  have e : (cs.toList.take 0 ++ cs'.toList ++ cs.toList.drop (0 + cs'.toList.length)).toArray = cs' := by
    rw [List.drop_of_length_le (by simp [ho])]
    simp
  rw [e] at hW
  exact hW

/-- A call, by the callee's contract. -/
theorem a_call {f : FuncId} {args : Array Value} {o : Oper} {R : Ending → World → Prop} (hk : Kn a N L) (hd : o.dst = some d) (hN : Nat.blt d N = true) (h : Ec P o a f args) (hc : Calls P f args w R)
    (hK : ∀ e w', R e w' → ∃ v, e = .returned v ∧ ∀ a', Kn a' N ((d, v) :: L) → K a' w') : acts P o K a w := by
  refine .inr (.inr ⟨f, args, w, h w, hc.mono fun e w' hR => ?_⟩)
  obtain ⟨v, rfl, hv⟩ := hK e w' hR
  exact ⟨v, rfl, by rw [hd]; exact hv _ (hk.put v hN)⟩
def callOk (P : Program) (f : FuncId) : Bool :=
  match P.funcs[f]? with
  | some fn => !(fn.name == "runtime.NumGoroutine") && fn.body.isSome
  | none => false
theorem run_callFunc {f : FuncId} (args : Array Value) (h : callOk P f = true) (w : World) : (callFunc f args).run P w = .ok (.enter f args) w := by
  unfold callOk at h
  cases hf : P.funcs[f]? with
  | none => simp [hf] at h
  | some fn =>
    simp [hf] at h
    obtain ⟨h1, h2⟩ := h
    cases hb : fn.body with
    | none => simp [hb] at h2
    | some c => simp [callFunc, program, Sem.run, hf, h1, hb]
/-- The call of a named function. -/
theorem c_fn {f : FuncId} {xs : List Operand} {vs : List Value} {ats : Array TypeId} (hk : Kn a N L) (hx : ovs L xs = some vs) (hf : callOk P f = true) : Ec P ⟨dst, .call { callee := .value (.func f), args := xs.toArray, argTypes := ats }, ty, pos, af, g⟩ a f vs.toArray := fun w => by
  have h := hk.ops hx
  simp [execOp, resolve, Act.eval, Deferred.ofValue, invoke, h, run_callFunc _ hf]
/-- The call of a function value. -/
theorem c_val {f : FuncId} {xs : List Operand} {vs : List Value} {first captured : List Value} {ats : Array TypeId} (hk : Kn a N L) (hv : ov L x = some (.func (.func f) first.toArray captured.toArray)) (hx : ovs L xs = some vs) (hf : callOk P f = true) : Ec P ⟨dst, .call { callee := .value x, args := xs.toArray, argTypes := ats }, ty, pos, af, g⟩ a f (first ++ vs ++ captured).toArray := fun w => by
  have h := hk.ops hx
  simp [execOp, resolve, hk.op hv, Deferred.ofValue, invoke, h, run_callFunc _ hf]
end
end Go.Proofs.YtidfbboalbchiaaDoor
