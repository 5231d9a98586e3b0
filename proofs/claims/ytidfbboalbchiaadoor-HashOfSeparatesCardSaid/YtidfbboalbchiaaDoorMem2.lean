/- The operations on slices and strings that read or make memory: conversions, literals, append, copy, make. Conditions: those that each lemma names. -/
import Derived.Test.YtidfbboalbchiaaDoorMem
import Derived.Laws.IdiomStrings
import Derived.Lib.AppendStr
namespace Go.Proofs.YtidfbboalbchiaaDoor
open Go Go.RowKit

/-- An element type's zero value, cells and bytes. -/
def El (P : Program) (e : TypeId) (z : Value) (sz by_ : Nat) : Prop := (P.info? e).map (fun i => (i.zero, i.size, i.bytes)) = some (some z, sz, by_)

/-- Some rows may have been written (an owned one), the others are as they were. -/
abbrev Kept (w w' : World) (v : Value) : Prop := w.grownBy w' v.ownBlock
theorem kept_below {C : Nat} {w0 w w' : World} {base : Nat} {e : TypeId} {sz n : Nat} {v : Value} {xs : List Value} (hK : Kept w w' v) (hB : Below C w0 w) (hown : w.ownsRow base e sz v n xs) (hb : C ≤ base) (hC : C ≤ w.heap.size) : Below C w0 w' :=
  hB.grown hK hC (fun k hk => by have := (hown.lt k hk).1; omega)
theorem kept_at {w w' : World} {base : Nat} {e : TypeId} {sz n k : Nat} {v : Value} {xs : List Value} {o : Obj} (hK : Kept w w' v) (_hown : w.ownsRow base e sz v n xs) (hne : v.ownBlock ≠ some k) (hk : w.heap[k]? = some o) : w'.heap[k]? = some o := by
  rw [hK.block k (heap_lt hk) (fun e => hne e.symm)]; exact hk
theorem kept_lt {w w' : World} {base : Nat} {e : TypeId} {sz n k : Nat} {v : Value} {xs : List Value} {o : Obj} (hK : Kept w w' v) (hown : w.ownsRow base e sz v n xs) (hlt : k < base) (hk : w.heap[k]? = some o) : w'.heap[k]? = some o :=
  kept_at hK hown (fun e => by have := (hown.lt k e).1; omega) hk
theorem kept_size {w w' : World} {v : Value} (hK : Kept w w' v) : w.heap.size ≤ w'.heap.size := hK.size

section
variable {P : Program} {a : Act} {w : World} {N d : Nat} {L : Fm} {ty : TypeId} {pos : String} {af : Array Edge} {g : Option (Nat × Bool)} {v : Value} {x y z : Operand} {t t' e : TypeId} {K : Act → World → Prop} {dst : Option Tmp}

/-- string(b). -/
theorem e_str {ad : Option Addr} {n c : Nat} {bs : List UInt8} (hk : Kn a N L) (hx : ov L x = some (.slice ad n c)) (hR : Rd w ad n c 1 (bs.map B)) (hs : P.underlying t = some (.slice e)) (he : P.underlying e = some (.int .u8)) (hd : P.underlying t' = some .string) : Ev P ⟨dst, .convert t t' x, ty, pos, af, g⟩ a w (Str bs) := by
  have hl : bs.length = n := by have := hR.1; simpa using this
  have h : (convert t t' (.slice ad n c)).run P w = .ok (Str bs) w := by
    cases ad with
    | none =>
      have hb : bs = [] := by
        cases bs with
        | nil => rfl
        | cons b r => obtain ⟨_, _, h, _⟩ := hR.2.2 0 (B b) rfl; cases h
      subst hb
      rw [run_convert_bytes_string w t t' e none n c hs he hd]
      simp [Conv.bytesToString]
      rfl
    | some p =>
      subst hl
      refine run_convert_bytes_back w t t' e p c bs hs he hd fun j hj => ?_
      obtain ⟨b, o, h1, h2⟩ := hR.2.2 j (B bs[j]) (by simp [hj])
      cases h1
      rw [Addr.add_lit]
      exact h2
  simp [Ev, execOp, hk.op hx, h]
/-- []byte(s). -/
theorem a_bytes {s : List UInt8} (hk : Kn a N L) (hN : Nat.blt d N = true) (hx : ov L x = some (Str s)) (hs : P.underlying t = some .string) (hd : P.underlying t' = some (.slice e)) (he : P.underlying e = some (.int .u8))
    (hK : ∀ a' w' b c, Kn a' N ((d, .slice (some ⟨b, 0, none⟩) s.length c) :: L) → w.heap.size ≤ b → Ext w w' → Rd w' (some ⟨b, 0, none⟩) s.length c 1 (s.map B) → K a' w') : acts P ⟨some d, .convert t t' x, ty, pos, af, g⟩ K a w := by
  have hsz : (⟨s.toArray⟩ : ByteArray).size = s.length := rfl
  have h := run_bytes_of_string (P := P) w t t' e ⟨s.toArray⟩ hs hd he
  rw [hsz] at h
  refine act_v (v := .slice (some ⟨w.heap.size, 0, none⟩) s.length (grownCap w s.length 0 e)) hk rfl hN (by simp only [execOp, hk.op hx]; simp [h]; rfl) fun a' hk' => hK a' _ w.heap.size _ hk' (Nat.le_refl _) ?_ ?_
  · exact (ext_drew w).alloc (Nat.le_refl _) _
  · refine Rd.of_block (heap_alloc_new w.drew _) (by simp) (grownCap_ge _ _ _ _) fun i hi => ?_
    have hi' : i < s.length := by simpa using hi
    simp [bytesRow, Array.getElem?_append, hi']
/-- A slice's literal. -/
theorem a_lit {ps : List (Nat × Operand)} {vs : List (Nat × Value)} {zv : Value} {n sz by_ : Nat} {cells : Array Value} (hk : Kn a N L) (hN : Nat.blt d N = true) (hx : pv L ps = some vs) (ht : P.underlying t = some (.slice e)) (hz : El P e zv sz by_) (hn : Nat.blt (n * sz) 1000 = true) (hn0 : Nat.blt 0 (n * sz) = true)
    (hf : Instr.fill (fun i => some (i * sz, sz)) ((Array.range (n * sz)).map (zv.cells[· % zv.cells.size]!)) vs = some cells) (hc : cells.size = n * sz)
    (hK : ∀ a' w' b, Kn a' N ((d, .slice (some ⟨b, 0, none⟩) n n) :: L) → Grew w w' b (.cells cells e) → K a' w') : acts P ⟨some d, .buildSlice t n ps.toArray, ty, pos, af, g⟩ K a w := by
  have h := hk.pv hx
  have hlt : n * sz < 1000 := (Nat.blt_eq ▸ hn : n * sz < 1000)
  have h0 : ¬ n * sz = 0 := by have : 0 < n * sz := (Nat.blt_eq ▸ hn0 : 0 < n * sz); omega
  refine act_v (v := .slice (some ⟨w.heap.size, 0, none⟩) n n) (w' := w.alloc (.cells cells e)) hk rfl hN ?_ fun a' hk' => hK a' _ _ hk' (grew_alloc _ _)
  unfold El at hz
  cases hq : P.info? e with
  | none => simp [hq] at hz
  | some inf =>
    obtain ⟨hz1, hz2, _⟩ : inf.zero = some zv ∧ inf.size = sz ∧ inf.bytes = by_ := by simpa [hq] using hz
    have hbig : ¬ (16777216 < n * sz) := by omega
    simp [execOp, Instr.buildSlice, run_underlying ht, sizeOf, zeroValue, typeInfo, hq, hz1, hz2, h, hbig, hf, newRow]
    exact fun h => absurd h h0
theorem lit1 (z v : Value) (hv : v.cells = #[v]) : Instr.fill (fun i => some (i * 1, 1)) ((Array.range (1 * 1)).map (z.cells[· % z.cells.size]!)) [(0, v)] = some #[v] := by
  have h : ∀ u : Value, (#[u] : Array Value).setIfInBounds 0 v = #[v] := fun _ => rfl
  have hr : Array.range 1 = #[0] := by decide
  simp [Instr.fill, hv, hr, h]
theorem lit_own {w w' : World} {b n sz : Nat} {cells : Array Value} (hG : Grew w w' b (.cells cells e)) (hc : cells.size = n * sz) (hn : n ≤ maxLen) : w'.ownsRow w.heap.size e sz (.slice (some ⟨b, 0, none⟩) n n) n cells.toList :=
  ⟨by simpa using hc, .inr ⟨b, n, cells, rfl, hG.ge, hG.at_, Nat.le_refl _, hn, hc, List.take_of_length_le (by simp [hc])⟩⟩
/-- append(s, x...) onto a slice that is nil or the call's own. -/
theorem a_app {base m c n sz by_ : Nat} {zv : Value} {xs news : List Value} {ad : Option Addr} (hk : Kn a N L) (hN : Nat.blt d N = true) (hx : ov L x = some v) (hown : w.ownsRow base e sz v n xs) (hy : ov L y = some (.slice ad m c)) (hR : Rd w ad m c sz news) (h1 : ∀ u ∈ news, u.oneCell' = true)
    (ht : P.underlying t = some (.slice e)) (hz : El P e zv sz by_) (hzs : zv.cells.size = sz) (hsz : 0 < sz) (hm : (n + m) * by_ ≤ 140737488355328) (hm2 : n + m ≤ 140737488355328) (hb : base ≤ w.heap.size)
    (hK : ∀ a' w' v', Kn a' N ((d, v') :: L) → w'.ownsRow base e sz v' (n + m) (xs ++ news) → Kept w w' v → K a' w') : acts P ⟨some d, .call { callee := .builtin .append, args := #[x, y], argTypes := #[t, t] }, ty, pos, af, g⟩ K a w := by
  unfold El at hz
  obtain ⟨inf, hq, hz1, hz2, hz3⟩ := info_parts hz
  cases ad with
  | some p =>
    obtain ⟨v', w', hrun, ho, hg, _⟩ := run_append_own (P := P) w base t ty e inf zv sz by_ ht hq hz1 hz2 hz3 hzs hsz v n xs hown p m c news hR.1 (fun j u hu => by
      obtain ⟨b, o, h1, h2⟩ := hR.2.2 j u hu
      cases h1
      rw [Addr.add_lit]; exact h2) h1 (by unfold maxLen; omega) hm hb
    refine act_v hk rfl hN (v := v') (w' := w') (by simp [execOp, hk.op hx, hk.op hy, resolve, invoke, builtin, hrun]) fun a' hk' => hK a' w' v' hk' ho hg
  | none =>
    have hn0 : news = [] := by
      cases news with
      | nil => rfl
      | cons u r => obtain ⟨_, _, h, _⟩ := hR.2.2 0 u rfl; cases h
    subst hn0
    have hm0 : m = 0 := by
      have := hR.1
      rcases Nat.eq_zero_or_pos m with h | h
      · exact h
      · have : 0 < m * sz := Nat.mul_pos h hsz
        have h2 := hR.1
        simp at h2
        omega
    subst hm0
    have hrun : (Builtin.append_ #[t, t] ty #[v, .slice none 0 c]).run P w = .ok v w := by
      rcases hown.2 with ⟨rfl, rfl⟩ | ⟨g', cap, cur, rfl, _, _, hnc, _⟩
      · simp [Builtin.append_, run_underlying ht, sizeOf, typeInfo, hq, Builtin.lenOf, Builtin.firstCells]
      · simp [Builtin.append_, run_underlying ht, sizeOf, typeInfo, hq, Builtin.lenOf, Builtin.firstCells, hnc, storeCells]
    refine act_v hk rfl hN (v := v) (w' := w) (by simp [execOp, hk.op hx, hk.op hy, resolve, invoke, builtin, hrun]) fun a' hk' => hK a' w v hk' (by simpa using hown) ⟨rfl, rfl, rfl, Nat.le_refl _, fun _ _ _ => rfl⟩
/-- append(b, s...), s a string. -/
theorem a_appStr {base n : Nat} {xs : List Value} {s : List UInt8} (hk : Kn a N L) (hN : Nat.blt d N = true) (hx : ov L x = some v) (hown : w.ownsRow base e 1 v n xs) (hy : ov L y = some (Str s))
    (ht : P.underlying t = some (.slice e)) (hu : P.underlying t' = some .string) (hz : El P e (.int .u8 0) 1 1) (hm : n + s.length ≤ 140737488355328) (hb : base ≤ w.heap.size)
    (hK : ∀ a' w' v', Kn a' N ((d, v') :: L) → w'.ownsRow base e 1 v' (n + s.length) (xs ++ s.map B) → Kept w w' v → K a' w') : acts P ⟨some d, .call { callee := .builtin .append, args := #[x, y], argTypes := #[t, t'] }, ty, pos, af, g⟩ K a w := by
  unfold El at hz
  obtain ⟨inf, hq, hz1, hz2, hz3⟩ := info_parts hz
  have hsz : (⟨s.toArray⟩ : ByteArray).size = s.length := rfl
  obtain ⟨v', w', hrun, ho, hg, _⟩ := Lib.run_append_own_string (P := P) w base t t' ty e inf ht hu hq hz1 hz2 hz3 v n xs hown ⟨s.toArray⟩ (by rw [hsz]; unfold maxLen; omega) (by rw [hsz]; exact hm) hb
  refine act_v hk rfl hN (v := v') (w' := w') (by simp [execOp, hk.op hx, hk.op hy, resolve, invoke, builtin, hrun]) fun a' hk' => hK a' w' v' hk' ?_ hg
  rw [hsz] at ho
  exact ho
/-- copy(b, s), b a part of a block of the call's own, s a string. -/
theorem a_copyStr {bl o dl dc : Nat} {cs : Array Value} {tb : TypeId} {s : List UInt8} (hk : Kn a N L) (hN : Nat.blt d N = true) (hx : ov L x = some (.slice (some ⟨bl, o, none⟩) dl dc)) (hy : ov L y = some (Str s)) (ht : P.underlying t = some (.slice e)) (hs : (P.info? e).map (·.size) = some 1)
    (hb : w.heap[bl]? = some (.cells cs tb (0, 0))) (ho : o + dl ≤ cs.size)
    (hK : ∀ a' w', Kn a' N ((d, .int .i64 (min s.length dl : Nat)) :: L) → Wrote w w' bl (.cells (cs.toList.take o ++ (s.take (min s.length dl)).map B ++ cs.toList.drop (o + min s.length dl)).toArray tb (0, 0)) → K a' w') :
    acts P ⟨some d, .call { callee := .builtin .copy, args := #[x, y], argTypes := #[t, t'] }, ty, pos, af, g⟩ K a w := by
  have hsz : (⟨s.toArray⟩ : ByteArray).size = s.length := rfl
  have hlen : ((s.take (min s.length dl)).map B).length = min s.length dl := by simp
  have hst := run_storeCells_at P bl o tb ((s.take (min s.length dl)).map B) 0 cs w hb (by rw [hlen]; omega) (fun u hu => by
    obtain ⟨b, _, rfl⟩ := List.mem_map.1 hu; rfl)
  simp only [Nat.add_zero, hlen] at hst
  refine act_v (v := .int .i64 (min s.length dl : Nat)) (w' := w.setRow bl (cs.toList.take o ++ (s.take (min s.length dl)).map B ++ cs.toList.drop (o + min s.length dl)).toArray) hk rfl hN ?_ fun a' hk' => hK a' _ hk' (wrote_setRow w bl cs _ tb (0, 0) hb)
  cases hq : P.info? e with
  | none => simp [hq] at hs
  | some inf =>
    have hs' : inf.size = 1 := by simpa [hq] using hs
    have hfc : (Builtin.firstCells 1 (min s.length dl) (.string ⟨s.toArray⟩)).run P w = .ok ((s.take (min s.length dl)).map B).toArray w := by
      simp [Builtin.firstCells, ext_str]
    simp only [execOp, resolve, invoke, builtin]
    simp [hk.op hx, hk.op hy, Builtin.copy_, run_underlying ht, Builtin.lenOf, sizeOf, typeInfo, hq, hs', hsz, Nat.min_def] at hfc ⊢
    simp [Nat.min_def] at hst
    rw [hfc]
    simp [hst, goInt]
/-- make([]T, n). -/
theorem a_make {n sz by_ : Nat} {zv : Value} (hk : Kn a N L) (hN : Nat.blt d N = true) (hx : ov L x = some (.int .i64 (n : Int))) (hy : ov L y = some (.int .i64 (n : Int))) (ht : P.underlying t = some (.slice e)) (hz : El P e zv sz by_) (hb : by_ * n ≤ 281474976710656) (hn : n ≤ maxLen)
    (hK : ∀ a' w' v', Kn a' N ((d, v') :: L) → (∃ b, v' = .slice (some ⟨b, 0, none⟩) n n) → w'.ownsRow w.heap.size e sz v' n (madeCells zv.cells (n * sz)).toList → Ext w w' → K a' w') : acts P ⟨some d, .makeSlice t x y, ty, pos, af, g⟩ K a w := by
  unfold El at hz
  obtain ⟨inf, hq, hz1, hz2, hz3⟩ := info_parts hz
  obtain ⟨w', hrun, ho, hg⟩ := run_make_full (P := P) w w.heap.size t e inf zv sz ht hq hz1 hz2 .i64 .i64 n (by rw [hz3]; exact hb) hn (Nat.le_refl _)
  refine act_v (v := .slice (some ⟨w.heap.size, 0, none⟩) n n) (w' := w') hk rfl hN (by simp [execOp, hk.op hx, hk.op hy, hrun]) fun a' hk' => hK a' w' _ hk' ⟨_, rfl⟩ ho ?_
  exact (Below.refl _ _).grown hg (Nat.le_refl _) (fun k hk => by cases hk)
end
end Go.Proofs.YtidfbboalbchiaaDoor
