/- Digests as values: stores, loads, results; one-cell variables; rows that stay. Conditions: those of each lemma. -/
import Derived.Test.YtidfbboalbchiaaDoorA9
import Derived.Test.YtidfbboalbchiaaDoorUp
namespace Go.Proofs.YtidfbboalbchiaaDoor
open Go Go.RowKit

theorem blk_ret {id : Nat} {Q : Exit → Act → World → Prop} {a : Act} {w : World} : Exit.inBlock id Q .ret a w = Q .ret a w := rfl
/-- The digest of parts. -/
def ofD (n : Int) (ps : List (List UInt8)) : List UInt8 := (sha (ofIn n ps)).take 16
@[simp] theorem length_ofD (n : Int) (ps : List (List UInt8)) : (ofD n ps).length = 16 := by simp [ofD, length_sha]
/-- The digest of zero bytes. -/
def zD : List UInt8 := List.replicate 16 0
@[simp] theorem length_zD : zD.length = 16 := rfl
abbrev D (l : List UInt8) : Value := .agg (l.map B).toArray
section
variable {a : Act} {w : World} {N d : Nat} {L : Fm} {ty : TypeId} {pos : String} {af : Array Edge} {g : Option (Nat × Bool)} {v : Value} {x y z : Operand} {t t' : TypeId} {K : Act → World → Prop} {dst : Option Tmp} {l : List UInt8} {bl : Nat} {cs : Array Value} {tb : TypeId} {fr : Nat × Nat}
theorem a_st44 (hk : Kn a N L) (hx : ov L x = some (.pointer (some ⟨bl, 0, none⟩))) (hy : ov L y = some (D l)) (hl : l.length = 16) (hb : w.heap[bl]? = some (.cells cs tb (0, 0))) (hc : cs.size = 16)
    (hK : ∀ a' w', Kn a' N L → Wrote w w' bl (.cells (l.map B).toArray tb (0, 0)) → K a' w') : acts Tryd.prog ⟨none, .store 44 x y, ty, pos, af, g⟩ K a w :=
  a_storeB hk hx hy (bytes_oneA _) (by rw [sz44]; simp [hl]) hb (by simp [hl, hc]) hK
theorem r_ld44 (hk : Kn a N L) (hx : ov L x = some (.pointer (some ⟨bl, 0, none⟩))) (hb : w.heap[bl]? = some (.cells (l.map B).toArray tb fr)) (hl : l.length = 16) : Ev Tryd.prog ⟨dst, .load 44 x, ty, pos, af, g⟩ a w (D l) :=
  r_loadB hk hx hb Tryd.underlying44 rfl (by rw [sz44]; simp [hl])
theorem ret44 {fn : Func} {p : Tmp} {R : Ending → World → Prop} (hk : Kn a N L) (hr : fn.results = #[.cell p 44]) (hv : lk L p = some (.pointer (some ⟨bl, 0, none⟩))) (hb : w.heap[bl]? = some (.cells (l.map B).toArray tb fr)) (hl : l.length = 16) (h : R (.returned (D l)) w) : bodyPost Tryd.prog fn R .ret a w :=
  retA hk hr hv hb Tryd.underlying44 rfl (by rw [sz44]; simp [hl]) h
theorem ret44b {fn : Func} {p u : Tmp} {R : Ending → World → Prop} (hk : Kn a N L) (hr : fn.results = #[.cell p 44, .tmp u]) (hv : lk L p = some (.pointer (some ⟨bl, 0, none⟩))) (hu : lk L u = some v) (hb : w.heap[bl]? = some (.cells (l.map B).toArray tb fr)) (hl : l.length = 16) (h : R (.returned (.tuple #[D l, v])) w) : bodyPost Tryd.prog fn R .ret a w :=
  retA1 hk hr hv hu hb Tryd.underlying44 rfl (by rw [sz44]; simp [hl]) h
/-- The digest of zero bytes, built. -/
theorem e_zero44 (hk : Kn a N L) (w : World) : Ev Tryd.prog ⟨dst, .build 44 #[], ty, pos, af, g⟩ a w (D zD) :=
  e_buildA (ps := []) (vs := []) (sz := 1) hk rfl zr44 Tryd.underlying44 sz5 (by kernel_rfl) w
end
section
variable {P : Program} {a : Act} {w : World} {N d : Nat} {L : Fm} {ty : TypeId} {pos : String} {af : Array Edge} {g : Option (Nat × Bool)} {v u : Value} {x y z : Operand} {t t' : TypeId} {K : Act → World → Prop} {dst : Option Tmp} {bl : Nat} {tb : TypeId} {fr : Nat × Nat}
theorem a_st1 (hk : Kn a N L) (hx : ov L x = some (.pointer (some ⟨bl, 0, none⟩))) (hy : ov L y = some v) (h1 : v.oneCell' = true) (hs : (P.info? t).map (·.size) = some 1) (hb : w.heap[bl]? = some (.cells #[u] tb (0, 0)))
    (hK : ∀ a' w', Kn a' N L → Wrote w w' bl (.cells #[v] tb (0, 0)) → K a' w') : acts P ⟨none, .store t x y, ty, pos, af, g⟩ K a w :=
  a_store hk hx hy h1 hs hb (by simp) fun a' w' hk' hW => hK a' w' hk' hW
theorem r_ld1 {dd : TypeDesc} (hk : Kn a N L) (hx : ov L x = some (.pointer (some ⟨bl, 0, none⟩))) (hu : P.underlying t = some dd) (hd : dd.isRow = false) (hb : w.heap[bl]? = some (.cells #[v] tb fr)) : Ev P ⟨dst, .load t x, ty, pos, af, g⟩ a w v :=
  r_load hk hx hu hd hb rfl
end
/-- A row stays when a newer block is written. -/
theorem rd_keep {w w1 : World} {ad : Option Addr} {n c sz : Nat} {xs : List Value} {b : Nat} {o : Obj} (h : Rd w ad n c sz xs) (G : Grew w w1 b o) : ∀ w2 w3 o', Rd w2 ad n c sz xs → Wrote w2 w3 b o' → Rd w3 ad n c sz xs := by
  intro w2 w3 o' h2 hW
  refine ⟨h2.1, h2.2.1, fun i u hu => ?_⟩
  obtain ⟨b1, o1, e1, c1⟩ := h.2.2 i u hu
  obtain ⟨b2, o2, e2, c2⟩ := h2.2.2 i u hu
  rw [e1] at e2
  cases e2
  have h3 : b1 < w.heap.size := World.block_lt_of_cell? w _ c1
  have := G.ge
  exact ⟨b1, o1, e1, hW.cell (by show b1 ≠ b; omega) c2⟩
theorem own_ne {w w1 : World} {base : Nat} {e : TypeId} {sz : Nat} {v : Value} {n : Nat} {xs : List Value} {b : Nat} {o : Obj} (h : w.ownsRow base e sz v n xs) (G : Grew w w1 b o) : v.ownBlock ≠ some b := fun hh => by
  have := (h.lt b hh).2
  have := G.ge
  omega
theorem rd_none {w : World} {c sz : Nat} : Rd w none 0 c sz [] := ⟨by simp, Nat.zero_le _, fun i u hu => by simp at hu⟩
theorem lit1s (v : Value) (hv : v.cells = #[v]) : ∀ z : Value, Instr.fill (fun i => some (i * 1, 1)) ((Array.range (1 * 1)).map (z.cells[· % z.cells.size]!)) [(0, v)] = some #[v] := fun z => lit1 z v hv
theorem lit2s (v u : Value) (hv : v.cells = #[v]) (hu : u.cells = #[u]) : ∀ z : Value, Instr.fill (fun i => some (i * 1, 1)) ((Array.range (2 * 1)).map (z.cells[· % z.cells.size]!)) [(0, v), (1, u)] = some #[v, u] := by
  intro z
  have hr : Array.range 2 = #[0, 1] := by decide
  have h : ∀ p q : Value, (#[p, q] : Array Value).setIfInBounds 0 v = #[v, q] := fun _ _ => rfl
  have h' : ∀ p q : Value, (#[p, q] : Array Value).setIfInBounds 1 u = #[p, u] := fun _ _ => rfl
  simp [Instr.fill, hv, hu, hr, h, h']
theorem rs_lit1 {w : World} {b : Nat} {e : TypeId} {fr : Nat × Nat} {x : List UInt8} (h : w.heap[b]? = some (.cells #[Str x] e fr)) : Rs w (some ⟨b, 0, none⟩) 1 1 [x] :=
  Rd.of_block h rfl (Nat.le_refl _) fun i hi => by
    have hi' : i < 1 := hi
    match i, hi' with
    | 0, _ => rfl
theorem rs_lit2 {w : World} {b : Nat} {e : TypeId} {fr : Nat × Nat} {x y : List UInt8} (h : w.heap[b]? = some (.cells #[Str x, Str y] e fr)) : Rs w (some ⟨b, 0, none⟩) 2 2 [x, y] :=
  Rd.of_block h rfl (Nat.le_refl _) fun i hi => by
    have hi' : i < 2 := hi
    match i, hi' with
    | 0, _ => rfl
    | 1, _ => rfl
/-- The bytes of a digest in a block. -/
theorem rd_dig {w : World} {b : Nat} {t : TypeId} {fr : Nat × Nat} {l : List UInt8} (h : w.heap[b]? = some (.cells (l.map B).toArray t fr)) (hl : l.length = 16) : Rd w (some ⟨b, 0, none⟩) 16 16 1 (l.map B) :=
  Rd.of_block h (by simp [hl]) (Nat.le_refl _) fun i hi => by rw [Nat.zero_add]; simp
end Go.Proofs.YtidfbboalbchiaaDoor
