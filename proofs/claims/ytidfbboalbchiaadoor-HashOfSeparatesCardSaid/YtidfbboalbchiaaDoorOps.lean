/- The operations that touch no memory, each with its value. Conditions: those that each lemma names. -/
import Derived.Test.YtidfbboalbchiaaDoorLib
namespace Go.Proofs.YtidfbboalbchiaaDoor
open Go Go.RowKit

abbrev W (x : UInt32) : Value := .int .u32 (x.toNat : Int)
abbrev B (x : UInt8) : Value := .int .u8 (x.toNat : Int)
abbrev U (x : UInt64) : Value := .int .u64 (x.toNat : Int)
abbrev I (n : Int) : Value := .int .i64 n
abbrev Str (l : List UInt8) : Value := .string ⟨l.toArray⟩

section
variable {P : Program} {a : Act} {w : World} {N : Nat} {L : Fm} {dst : Option Tmp} {ty : TypeId} {pos : String} {af : Array Edge} {g : Option (Nat × Bool)} {v r : Value} {x y z : Operand}

theorem e_move (hk : Kn a N L) (hx : ov L x = some v) (w : World) : Ev P ⟨dst, .move x, ty, pos, af, g⟩ a w v := by
  simp [Ev, execOp, hk.op hx, pure]
theorem e_assign (hk : Kn a N L) (hx : ov L x = some v) (w : World) : Ev P ⟨dst, .assign x, ty, pos, af, g⟩ a w v := by
  simp [Ev, execOp, hk.op hx, pure]
theorem e_pickT (hk : Kn a N L) (hx : ov L x = some (.bool true)) (hy : ov L y = some v) (w : World) : Ev P ⟨dst, .pick x y z, ty, pos, af, g⟩ a w v := by
  simp [Ev, execOp, hk.op hx, hk.op hy, asBool]
theorem e_pickF (hk : Kn a N L) (hx : ov L x = some (.bool false)) (hz : ov L z = some v) (w : World) : Ev P ⟨dst, .pick x y z, ty, pos, af, g⟩ a w v := by
  simp [Ev, execOp, hk.op hx, hk.op hz, asBool]
theorem e_nil (hk : Kn a N L) {ad : Addr} (hx : ov L x = some (.pointer (some ad))) (w : World) : Ev P ⟨dst, .nilCheck x, ty, pos, af, g⟩ a w (.pointer (some ad)) := by
  simp [Ev, execOp, hk.op hx, pure]
theorem e_nilf (hk : Kn a N L) {f : FuncId} {u c : Array Value} (hx : ov L x = some (.func (.func f) u c)) (w : World) : Ev P ⟨dst, .nilCheck x, ty, pos, af, g⟩ a w (.func (.func f) u c) := by
  simp [Ev, execOp, hk.op hx, pure]

variable {k k' : IntKind} {m n q : Int} {t t' : TypeId} {b : Bool}
theorem e_add (hk : Kn a N L) (hx : ov L x = some (.int k m)) (hy : ov L y = some (.int k n)) (hr : k.wrap (m + n) = q) (w : World) : Ev P ⟨dst, .binOp .add t x y t', ty, pos, af, g⟩ a w (.int k q) := by
  simp [Ev, execOp, hk.op hx, hk.op hy, eqGuard, binOp, Op.intArith, hr]
theorem e_sub (hk : Kn a N L) (hx : ov L x = some (.int k m)) (hy : ov L y = some (.int k n)) (hr : k.wrap (m - n) = q) (w : World) : Ev P ⟨dst, .binOp .sub t x y t', ty, pos, af, g⟩ a w (.int k q) := by
  simp [Ev, execOp, hk.op hx, hk.op hy, eqGuard, binOp, Op.intArith, hr]
theorem e_mul (hk : Kn a N L) (hx : ov L x = some (.int k m)) (hy : ov L y = some (.int k n)) (hr : k.wrap (m * n) = q) (w : World) : Ev P ⟨dst, .binOp .mul t x y t', ty, pos, af, g⟩ a w (.int k q) := by
  simp [Ev, execOp, hk.op hx, hk.op hy, eqGuard, binOp, Op.intArith, hr]
theorem e_and (hk : Kn a N L) (hx : ov L x = some (.int k m)) (hy : ov L y = some (.int k n)) (hr : k.wrap ((BitVec.ofInt k.bits m &&& BitVec.ofInt k.bits n).toNat : Int) = q) (w : World) : Ev P ⟨dst, .binOp .and t x y t', ty, pos, af, g⟩ a w (.int k q) := by
  simp only [Ev, execOp, hk.op hx, hk.op hy]
  simp [eqGuard, binOp, Op.intBits, ← hr]
theorem e_or (hk : Kn a N L) (hx : ov L x = some (.int k m)) (hy : ov L y = some (.int k n)) (hr : k.wrap ((BitVec.ofInt k.bits m ||| BitVec.ofInt k.bits n).toNat : Int) = q) (w : World) : Ev P ⟨dst, .binOp .or t x y t', ty, pos, af, g⟩ a w (.int k q) := by
  simp only [Ev, execOp, hk.op hx, hk.op hy]
  simp [eqGuard, binOp, Op.intBits, ← hr]
theorem e_xor (hk : Kn a N L) (hx : ov L x = some (.int k m)) (hy : ov L y = some (.int k n)) (hr : k.wrap ((BitVec.ofInt k.bits m ^^^ BitVec.ofInt k.bits n).toNat : Int) = q) (w : World) : Ev P ⟨dst, .binOp .xor t x y t', ty, pos, af, g⟩ a w (.int k q) := by
  simp only [Ev, execOp, hk.op hx, hk.op hy]
  simp [eqGuard, binOp, Op.intBits, ← hr]
theorem e_shl (hk : Kn a N L) (hx : ov L x = some (.int k m)) (hy : ov L y = some (.int k' n)) (h0 : 0 ≤ n) (hr : k.wrap (m * 2 ^ min n.toNat k.bits) = q) (w : World) : Ev P ⟨dst, .binOp .shl t x y t', ty, pos, af, g⟩ a w (.int k q) := by
  simp [Ev, execOp, hk.op hx, hk.op hy, eqGuard, binOp, Op.shift, hr, Int.not_lt.2 h0]
theorem e_shr (hk : Kn a N L) (hx : ov L x = some (.int k m)) (hy : ov L y = some (.int k' n)) (h0 : 0 ≤ n) (hr : m.fdiv (2 ^ min n.toNat k.bits) = q) (w : World) : Ev P ⟨dst, .binOp .shr t x y t', ty, pos, af, g⟩ a w (.int k q) := by
  simp [Ev, execOp, hk.op hx, hk.op hy, eqGuard, binOp, Op.shift, hr, Int.not_lt.2 h0]
theorem e_quo (hk : Kn a N L) (hx : ov L x = some (.int k m)) (hy : ov L y = some (.int k n)) (h0 : n ≠ 0) (hr : k.wrap (m.tdiv n) = q) (w : World) : Ev P ⟨dst, .binOp .quo t x y t', ty, pos, af, g⟩ a w (.int k q) := by
  simp [Ev, execOp, hk.op hx, hk.op hy, eqGuard, binOp, Op.intDiv, h0, hr]
theorem e_rem (hk : Kn a N L) (hx : ov L x = some (.int k m)) (hy : ov L y = some (.int k n)) (h0 : n ≠ 0) (hr : m.tmod n = q) (w : World) : Ev P ⟨dst, .binOp .rem t x y t', ty, pos, af, g⟩ a w (.int k q) := by
  simp [Ev, execOp, hk.op hx, hk.op hy, eqGuard, binOp, Op.intDiv, h0, hr]
theorem e_lss (hk : Kn a N L) (hx : ov L x = some (.int k m)) (hy : ov L y = some (.int k n)) (hr : decide (m < n) = b) (w : World) : Ev P ⟨dst, .binOp .lss t x y t', ty, pos, af, g⟩ a w (.bool b) := by
  simp [Ev, execOp, hk.op hx, hk.op hy, eqGuard, binOp, Op.intCmp, hr]
theorem e_leq (hk : Kn a N L) (hx : ov L x = some (.int k m)) (hy : ov L y = some (.int k n)) (hr : decide (m ≤ n) = b) (w : World) : Ev P ⟨dst, .binOp .leq t x y t', ty, pos, af, g⟩ a w (.bool b) := by
  simp [Ev, execOp, hk.op hx, hk.op hy, eqGuard, binOp, Op.intCmp, hr]
theorem e_gtr (hk : Kn a N L) (hx : ov L x = some (.int k m)) (hy : ov L y = some (.int k n)) (hr : decide (m > n) = b) (w : World) : Ev P ⟨dst, .binOp .gtr t x y t', ty, pos, af, g⟩ a w (.bool b) := by
  simp only [Ev, execOp, hk.op hx, hk.op hy]
  simp [eqGuard, binOp, Op.intCmp, ← hr]
theorem e_geq (hk : Kn a N L) (hx : ov L x = some (.int k m)) (hy : ov L y = some (.int k n)) (hr : decide (m ≥ n) = b) (w : World) : Ev P ⟨dst, .binOp .geq t x y t', ty, pos, af, g⟩ a w (.bool b) := by
  simp only [Ev, execOp, hk.op hx, hk.op hy]
  simp [eqGuard, binOp, Op.intCmp, ← hr]
theorem e_eql (hk : Kn a N L) (hx : ov L x = some (.int k m)) (hy : ov L y = some (.int k n)) (hr : decide (m = n) = b) (w : World) : Ev P ⟨dst, .binOp .eql t x y t', ty, pos, af, g⟩ a w (.bool b) := by
  simp only [Ev, execOp, hk.op hx, hk.op hy]
  simp [eqGuard, binOp, Op.intCmp, ← hr]
  rfl
theorem e_neq (hk : Kn a N L) (hx : ov L x = some (.int k m)) (hy : ov L y = some (.int k n)) (hr : (!decide (m = n)) = b) (w : World) : Ev P ⟨dst, .binOp .neq t x y t', ty, pos, af, g⟩ a w (.bool b) := by
  simp only [Ev, execOp, hk.op hx, hk.op hy]
  simp [eqGuard, binOp, Op.intCmp, ← hr]
  rfl

variable {s u : List UInt8}
theorem str_eq (s u : List UInt8) : ((⟨s.toArray⟩ : ByteArray).toList == (⟨u.toArray⟩ : ByteArray).toList) = decide (s = u) := by
  have h : ∀ s : List UInt8, (⟨s.toArray⟩ : ByteArray).toList = s := fun s => by simp [ByteArray.toList_eq]
  rw [h, h, Bool.eq_iff_iff]
  simp
theorem e_seql (hk : Kn a N L) (hx : ov L x = some (Str s)) (hy : ov L y = some (Str u)) (hr : decide (s = u) = b) (w : World) : Ev P ⟨dst, .binOp .eql t x y t', ty, pos, af, g⟩ a w (.bool b) := by
  simp only [Ev, execOp, hk.op hx, hk.op hy]
  simp only [eqGuard, binOp, Op.stringOp, str_eq, hr]
  rfl
theorem e_sneq (hk : Kn a N L) (hx : ov L x = some (Str s)) (hy : ov L y = some (Str u)) (hr : (!decide (s = u)) = b) (w : World) : Ev P ⟨dst, .binOp .neq t x y t', ty, pos, af, g⟩ a w (.bool b) := by
  simp only [Ev, execOp, hk.op hx, hk.op hy]
  simp only [eqGuard, binOp, Op.stringOp, str_eq, hr]
  rfl
theorem e_sadd (hk : Kn a N L) (hx : ov L x = some (Str s)) (hy : ov L y = some (Str u)) (hl : s.length + u.length ≤ 9223372036854775807) (w : World) : Ev P ⟨dst, .binOp .add t x y t', ty, pos, af, g⟩ a w (Str (s ++ u)) := by
  have e : (⟨s.toArray⟩ : ByteArray) ++ ⟨u.toArray⟩ = ⟨(s ++ u).toArray⟩ := by
    rw [ByteArray.ext_iff]; simp
  simp only [Ev, execOp, hk.op hx, hk.op hy]
  have h1 : (⟨s.toArray⟩ : ByteArray).size = s.length := rfl
  have h2 : (⟨u.toArray⟩ : ByteArray).size = u.length := rfl
  have h3 : ¬ (((s.length + u.length : Nat) : Int) > IntKind.i64.max) := by
    have : IntKind.i64.max = 9223372036854775807 := by decide
    rw [this]; omega
  simp only [eqGuard, binOp, Op.stringOp, h1, h2, if_neg h3, e]
  rfl
theorem e_not (hk : Kn a N L) (hx : ov L x = some (.bool b)) (w : World) : Ev P ⟨dst, .unOp .not t x, ty, pos, af, g⟩ a w (.bool (!b)) := by
  simp [Ev, execOp, hk.op hx, Op.unary]
theorem e_notT (hk : Kn a N L) (hx : ov L x = some (.bool true)) (w : World) : Ev P ⟨dst, .unOp .not t x, ty, pos, af, g⟩ a w (.bool false) := e_not hk hx w
theorem e_notF (hk : Kn a N L) (hx : ov L x = some (.bool false)) (w : World) : Ev P ⟨dst, .unOp .not t x, ty, pos, af, g⟩ a w (.bool true) := e_not hk hx w
theorem e_neg (hk : Kn a N L) (hx : ov L x = some (.int k m)) (hr : k.wrap (0 - m) = q) (w : World) : Ev P ⟨dst, .unOp .neg t x, ty, pos, af, g⟩ a w (.int k q) := by
  simp only [Ev, execOp, hk.op hx]
  simp [Op.unary, Op.intArith, ← hr]
theorem e_cpl (hk : Kn a N L) (hx : ov L x = some (.int k m)) (hs : k.signed = false) (hr : k.wrap ((BitVec.ofInt k.bits k.max ^^^ BitVec.ofInt k.bits m).toNat : Int) = q) (w : World) : Ev P ⟨dst, .unOp .xor t x, ty, pos, af, g⟩ a w (.int k q) := by
  simp only [Ev, execOp, hk.op hx]
  simp [Op.unary, Op.intBits, hs, ← hr]
theorem e_conv {ds : TypeDesc} (hk : Kn a N L) (hx : ov L x = some (.int k m)) (hs : P.underlying t = some ds) (hd : P.underlying t' = some (.int k')) (hr : k'.wrap m = q) (w : World) : Ev P ⟨dst, .convert t t' x, ty, pos, af, g⟩ a w (.int k' q) := by
  simp only [Ev, execOp, hk.op hx]
  simp [convert, run_underlying hs, run_underlying hd, Conv.intToInt, hr]
theorem e_ext {vs : List Value} {i : Nat} (hk : Kn a N L) (hx : ov L x = some (.tuple vs.toArray)) (hi : vs[i]? = some v) (w : World) : Ev P ⟨dst, .extract x i, ty, pos, af, g⟩ a w v := by
  simp only [Ev, execOp, hk.op hx]
  simp [Instr.extract, hi]
theorem e_lenS {ad : Option Addr} {l c : Nat} {e : TypeId} (hk : Kn a N L) (hx : ov L x = some (.slice ad l c)) (ht : P.underlying t = some (.slice e)) (w : World) : Ev P ⟨dst, .call { callee := .builtin .len, args := #[x], argTypes := #[t] }, ty, pos, af, g⟩ a w (.int .i64 l) := by
  simp [Ev, execOp, hk.op hx, resolve, invoke, builtin, Builtin.len_, run_underlying ht, goInt]
theorem e_lenStr (hk : Kn a N L) (hx : ov L x = some (Str s)) (ht : P.underlying t = some .string) (w : World) : Ev P ⟨dst, .call { callee := .builtin .len, args := #[x], argTypes := #[t] }, ty, pos, af, g⟩ a w (.int .i64 s.length) := by
  have h1 : (⟨s.toArray⟩ : ByteArray).size = s.length := rfl
  simp [Ev, execOp, hk.op hx, resolve, invoke, builtin, Builtin.len_, run_underlying ht, goInt, h1]
theorem e_min (hk : Kn a N L) (hx : ov L x = some (.int k m)) (hy : ov L y = some (.int k n)) (hr : min m n = q) (w : World) : Ev P ⟨dst, .call { callee := .builtin .min, args := #[x, y], argTypes := #[t, t'] }, ty, pos, af, g⟩ a w (.int k q) := by
  have e : (if n < m then n else m) = q := by rw [← hr]; omega
  simp [Ev, execOp, hk.op hx, hk.op hy, resolve, invoke, builtin, Builtin.min_, Builtin.min2, e]
theorem e_max (hk : Kn a N L) (hx : ov L x = some (.int k m)) (hy : ov L y = some (.int k n)) (hr : max m n = q) (w : World) : Ev P ⟨dst, .call { callee := .builtin .max, args := #[x, y], argTypes := #[t, t'] }, ty, pos, af, g⟩ a w (.int k q) := by
  have e : (if n > m then n else m) = q := by rw [← hr]; omega
  have e' : (if m < n then n else m) = q := e
  simp [Ev, execOp, hk.op hx, hk.op hy, resolve, invoke, builtin, Builtin.max_, Builtin.max2, e']
theorem e_func {fn : Fn} {xs ys : List Operand} {us vs : List Value} (hk : Kn a N L) (hx : ovs L xs = some us) (hy : ovs L ys = some vs) (w : World) : Ev P ⟨dst, .makeFunc fn xs.toArray ys.toArray, ty, pos, af, g⟩ a w (.func fn us.toArray vs.toArray) := by
  simp [Ev, execOp, Instr.makeFunc, hk.ops hx, hk.ops hy]

/-- A place in a struct. -/
theorem e_field {bl o i off : Nat} {fs : Array Field} {fld : Field} (hk : Kn a N L) (hx : ov L x = some (.pointer (some ⟨bl, o, none⟩))) (ht : P.underlying t = some (.struct fs)) (hf : fs[i]? = some fld) (ho : fld.offset = off) (hz : ((P.info? fld.type).map fun i => i.size == 0) = some false) (w : World) :
    Ev P ⟨dst, .fieldAddr t x i, ty, pos, af, g⟩ a w (.pointer (some ⟨bl, o + off, none⟩)) := by
  subst ho
  cases hq : P.info? fld.type with
  | none => simp [hq] at hz
  | some inf =>
    have hz' : ¬ inf.size = 0 := by simpa [hq] using hz
    simp [Ev, execOp, hk.op hx, Instr.fieldAt, run_underlying ht, hf, Instr.sureAddr, fieldPlace, sizeOf, typeInfo, hq, hz', Addr.add_lit]
/-- A place in an array. -/
theorem e_idxA {bl o sz ln : Nat} {e : TypeId} {i : Int} (hk : Kn a N L) (hx : ov L x = some (.pointer (some ⟨bl, o, none⟩))) (hy : ov L y = some (.int k i)) (ht : P.underlying t = some (.array ln e)) (hs : (P.info? e).map (·.size) = some sz) (h0 : 0 ≤ i) (h1 : i < ln) (w : World) :
    Ev P ⟨dst, .indexAddr t x y, ty, pos, af, g⟩ a w (.pointer (some ⟨bl, o + i.toNat * sz, none⟩)) := by
  cases hq : P.info? e with
  | none => simp [hq] at hs
  | some inf =>
    have hs' : inf.size = sz := by simpa [hq] using hs
    simp [Ev, execOp, hk.op hx, hk.op hy, Instr.indexAt, asIntOf, run_underlying ht, Instr.sureAddr, sizeOf, typeInfo, hq, hs', h0, h1, Addr.add_lit]
/-- A place in a slice. -/
theorem e_idxS {bl o sz ln c : Nat} {e : TypeId} {i : Int} (hk : Kn a N L) (hx : ov L x = some (.slice (some ⟨bl, o, none⟩) ln c)) (hy : ov L y = some (.int k i)) (ht : P.underlying t = some (.slice e)) (hs : (P.info? e).map (·.size) = some sz) (h0 : 0 ≤ i) (h1 : i < ln) (w : World) :
    Ev P ⟨dst, .indexAddr t x y, ty, pos, af, g⟩ a w (.pointer (some ⟨bl, o + i.toNat * sz, none⟩)) := by
  cases hq : P.info? e with
  | none => simp [hq] at hs
  | some inf =>
    have hs' : inf.size = sz := by simpa [hq] using hs
    simp [Ev, execOp, hk.op hx, hk.op hy, Instr.indexAt, asIntOf, run_underlying ht, sizeOf, typeInfo, hq, hs', h0, h1, Addr.add_lit]
/-- A byte of a string. -/
theorem e_idxStr {c : UInt8} {i : Int} (hk : Kn a N L) (hx : ov L x = some (Str s)) (hy : ov L y = some (.int k i)) (ht : P.underlying t = some .string) (h0 : 0 ≤ i) (hc : s[i.toNat]? = some c) (w : World) :
    Ev P ⟨dst, .index t x y, ty, pos, af, g⟩ a w (B c) := by
  have hlt : i.toNat < s.length := (List.getElem?_eq_some_iff.1 hc).1
  have hg : s[i.toNat] = c := (List.getElem?_eq_some_iff.1 hc).2
  have hb : (⟨s.toArray⟩ : ByteArray)[i.toNat]? = some c := by
    have hsz : i.toNat < (⟨s.toArray⟩ : ByteArray).size := hlt
    rw [getElem?_pos (⟨s.toArray⟩ : ByteArray) i.toNat hsz]
    exact congrArg some hg
  simp [Ev, execOp, hk.op hx, hk.op hy, Instr.index, asIntOf, run_underlying ht, h0, hb]
/-- An element of an array's value. -/
theorem e_idxV {cs : Array Value} {ln : Nat} {e : TypeId} {i : Int} {dd : TypeDesc} (hk : Kn a N L) (hx : ov L x = some (.agg cs)) (hy : ov L y = some (.int k i)) (ht : P.underlying t = some (.array ln e)) (he : P.underlying e = some dd) (hd : dd.isRow = false) (hs : (P.info? e).map (·.size) = some 1) (h0 : 0 ≤ i) (h1 : i < ln) (hv : cs[i.toNat]? = some v) (w : World) :
    Ev P ⟨dst, .index t x y, ty, pos, af, g⟩ a w v := by
  cases hq : P.info? e with
  | none => simp [hq] at hs
  | some inf =>
    have hs' : inf.size = 1 := by simpa [hq] using hs
    have hagg : (isAgg e).run P w = .ok false w := by
      unfold isAgg
      rw [Sem.run_bind, run_underlying he w]
      cases dd <;> simp_all [TypeDesc.isRow]
    simp [Ev, execOp, hk.op hx, hk.op hy, Instr.index, asIntOf, run_underlying ht, sizeOf, typeInfo, hq, hs', h0, h1, part, hagg, hv]
/-- The whole of an array, as a slice. -/
theorem e_slA {bl o sz ln : Nat} {e : TypeId} (hk : Kn a N L) (hx : ov L x = some (.pointer (some ⟨bl, o, none⟩))) (ht : P.underlying t = some (.array ln e)) (hs : (P.info? e).map (·.size) = some sz) (w : World) :
    Ev P ⟨dst, .slice t x none none none, ty, pos, af, g⟩ a w (.slice (some ⟨bl, o, none⟩) ln ln) := by
  cases hq : P.info? e with
  | none => simp [hq] at hs
  | some inf =>
    simp [Ev, execOp, hk.op hx, Instr.sliceAt, run_underlying ht, Instr.sureAddr, Instr.sliceBounds, sizeOf, typeInfo, hq, Addr.add_lit]
/-- An array from a place on, as a slice. -/
theorem e_slAfrom {bl o ln : Nat} {e : TypeId} {i : Int} (hk : Kn a N L) (hx : ov L x = some (.pointer (some ⟨bl, o, none⟩))) (hy : ov L y = some (.int k i)) (ht : P.underlying t = some (.array ln e)) (hs : (P.info? e).map (·.size) = some 1) (h0 : 0 ≤ i) (h1 : i < ln) (w : World) :
    Ev P ⟨dst, .slice t x (some y) none none, ty, pos, af, g⟩ a w (.slice (some ⟨bl, o + i.toNat, none⟩) (ln - i.toNat) (ln - i.toNat)) := by
  have hl' : ¬ ln = i.toNat := by omega
  have h2 : i ≤ (ln : Int) := by omega
  cases hq : P.info? e with
  | none => simp [hq] at hs
  | some inf =>
    have hs' : inf.size = 1 := by simpa [hq] using hs
    simp [Ev, execOp, hk.op hx, hk.op hy, Instr.sliceAt, run_underlying ht, Instr.sureAddr, Instr.sliceBounds, Instr.sliceBound, asIntOf, sizeOf, typeInfo, hq, hs', hl', h0, h2, Addr.add_lit]
theorem e_slAto {bl o ln : Nat} {e : TypeId} {i : Int} (hk : Kn a N L) (hx : ov L x = some (.pointer (some ⟨bl, o, none⟩))) (hy : ov L y = some (.int k i)) (ht : P.underlying t = some (.array ln e)) (hs : (P.info? e).map (·.size) = some 1) (h0 : 0 ≤ i) (h1 : i ≤ ln) (w : World) :
    Ev P ⟨dst, .slice t x none (some y) none, ty, pos, af, g⟩ a w (.slice (some ⟨bl, o, none⟩) i.toNat ln) := by
  cases hq : P.info? e with
  | none => simp [hq] at hs
  | some inf =>
    simp [Ev, execOp, hk.op hx, hk.op hy, Instr.sliceAt, run_underlying ht, Instr.sureAddr, Instr.sliceBounds, Instr.sliceBound, asIntOf, sizeOf, typeInfo, hq, h0, h1, Addr.add_lit]
/-- A string's part. -/
theorem ext_str (s : List UInt8) (l h : Nat) : (⟨s.toArray⟩ : ByteArray).extract l h = ⟨((s.take h).drop l).toArray⟩ := by
  rw [ByteArray.ext_iff]
  simp [ByteArray.data_extract, List.extract_toArray, List.extract_eq_take_drop, List.drop_take]
theorem e_slStrFrom {i : Int} (hk : Kn a N L) (hx : ov L x = some (Str s)) (hy : ov L y = some (.int k i)) (ht : P.underlying t = some .string) (h0 : 0 ≤ i) (h1 : i ≤ s.length) (w : World) :
    Ev P ⟨dst, .slice t x (some y) none none, ty, pos, af, g⟩ a w (Str (s.drop i.toNat)) := by
  have hsz : (⟨s.toArray⟩ : ByteArray).size = s.length := rfl
  simp [Ev, execOp, hk.op hx, hk.op hy, Instr.sliceAt, Instr.slice, run_underlying ht, Instr.sliceBounds, Instr.sliceBound, asIntOf, hsz, h0, h1, ext_str]
theorem e_slStrTo {i : Int} (hk : Kn a N L) (hx : ov L x = some (Str s)) (hy : ov L y = some (.int k i)) (ht : P.underlying t = some .string) (h0 : 0 ≤ i) (h1 : i ≤ s.length) (w : World) :
    Ev P ⟨dst, .slice t x none (some y) none, ty, pos, af, g⟩ a w (Str (s.take i.toNat)) := by
  have hsz : (⟨s.toArray⟩ : ByteArray).size = s.length := rfl
  simp [Ev, execOp, hk.op hx, hk.op hy, Instr.sliceAt, Instr.slice, run_underlying ht, Instr.sliceBounds, Instr.sliceBound, asIntOf, hsz, h0, h1, ext_str]
/-- Part of a slice. -/
theorem e_slS {ad : Option Addr} {ln c sz : Nat} {e : TypeId} {i j : Int} (hk : Kn a N L) (hx : ov L x = some (.slice ad ln c)) (hy : ov L y = some (.int k i)) (hz : ov L z = some (.int k' j)) (ht : P.underlying t = some (.slice e)) (hs : (P.info? e).map (·.size) = some sz) (h0 : 0 ≤ i) (h1 : i ≤ j) (h2 : j ≤ c) (w : World) :
    Ev P ⟨dst, .slice t x (some y) (some z) none, ty, pos, af, g⟩ a w (.slice (if c = i.toNat then ad else ad.map (·.add (i.toNat * sz))) (j.toNat - i.toNat) (c - i.toNat)) := by
  have h01 : 0 ≤ j := by omega
  have h3 : i ≤ max j 0 := by omega
  cases hq : P.info? e with
  | none => simp [hq] at hs
  | some inf =>
    have hs' : inf.size = sz := by simpa [hq] using hs
    simp [Ev, execOp, hk.op hx, hk.op hy, hk.op hz, Instr.sliceAt, Instr.slice, run_underlying ht, Instr.sliceBounds, Instr.sliceBound, asIntOf, sizeOf, typeInfo, hq, hs', h0, h01, h2, h3]
theorem e_slSfrom {ad : Option Addr} {ln c sz : Nat} {e : TypeId} {i : Int} (hk : Kn a N L) (hx : ov L x = some (.slice ad ln c)) (hy : ov L y = some (.int k i)) (ht : P.underlying t = some (.slice e)) (hs : (P.info? e).map (·.size) = some sz) (h0 : 0 ≤ i) (h1 : i ≤ ln) (w : World) :
    Ev P ⟨dst, .slice t x (some y) none none, ty, pos, af, g⟩ a w (.slice (if c = i.toNat then ad else ad.map (·.add (i.toNat * sz))) (ln - i.toNat) (c - i.toNat)) := by
  cases hq : P.info? e with
  | none => simp [hq] at hs
  | some inf =>
    have hs' : inf.size = sz := by simpa [hq] using hs
    simp [Ev, execOp, hk.op hx, hk.op hy, Instr.sliceAt, Instr.slice, run_underlying ht, Instr.sliceBounds, Instr.sliceBound, asIntOf, sizeOf, typeInfo, hq, hs', h0, h1]
theorem e_slSto {ad : Option Addr} {ln c sz : Nat} {e : TypeId} {j : Int} (hk : Kn a N L) (hx : ov L x = some (.slice ad ln c)) (hz : ov L z = some (.int k' j)) (ht : P.underlying t = some (.slice e)) (hs : (P.info? e).map (·.size) = some sz) (h0 : 0 ≤ j) (h2 : j ≤ c) (w : World) :
    Ev P ⟨dst, .slice t x none (some z) none, ty, pos, af, g⟩ a w (.slice (if c = 0 then ad else ad.map (·.add 0)) j.toNat c) := by
  cases hq : P.info? e with
  | none => simp [hq] at hs
  | some inf =>
    have hs' : inf.size = sz := by simpa [hq] using hs
    simp [Ev, execOp, hk.op hx, hk.op hz, Instr.sliceAt, Instr.slice, run_underlying ht, Instr.sliceBounds, Instr.sliceBound, asIntOf, sizeOf, typeInfo, hq, h0, h2]
/-- A slice's array. -/
theorem e_s2a {ad : Option Addr} {ln c n : Nat} {e : TypeId} (hk : Kn a N L) (hx : ov L x = some (.slice ad ln c)) (ht : P.underlying t = some (.array n e)) (h : n ≤ ln) (w : World) : Ev P ⟨dst, .sliceToArrayPointer t x, ty, pos, af, g⟩ a w (.pointer ad) := by
  simp [Ev, execOp, hk.op hx, Instr.arrayAt, run_underlying ht, Nat.not_lt.2 h]
/-- A place in an array or a slice, the index a natural number. -/
theorem e_idxA1 {bl o ln : Nat} {e : TypeId} {i : Int} (n : Nat) (hk : Kn a N L) (hx : ov L x = some (.pointer (some ⟨bl, o, none⟩))) (hy : ov L y = some (.int k i)) (ht : P.underlying t = some (.array ln e)) (hs : (P.info? e).map (·.size) = some 1) (hn : i = (n : Int)) (h1 : n < ln) (w : World) :
    Ev P ⟨dst, .indexAddr t x y, ty, pos, af, g⟩ a w (.pointer (some ⟨bl, o + n, none⟩)) := by
  subst hn
  have h := e_idxA (dst := dst) (ty := ty) (pos := pos) (af := af) (g := g) hk hx hy ht hs (by omega) (by omega) w
  simpa using h
theorem e_idxS1 {bl o ln c : Nat} {e : TypeId} {i : Int} (n : Nat) (hk : Kn a N L) (hx : ov L x = some (.slice (some ⟨bl, o, none⟩) ln c)) (hy : ov L y = some (.int k i)) (ht : P.underlying t = some (.slice e)) (hs : (P.info? e).map (·.size) = some 1) (hn : i = (n : Int)) (h1 : n < ln) (w : World) :
    Ev P ⟨dst, .indexAddr t x y, ty, pos, af, g⟩ a w (.pointer (some ⟨bl, o + n, none⟩)) := by
  subst hn
  have h := e_idxS (dst := dst) (ty := ty) (pos := pos) (af := af) (g := g) hk hx hy ht hs (by omega) (by omega) w
  simpa using h
theorem e_idxAn {bl o ln sz : Nat} {e : TypeId} {i : Int} (n : Nat) (hk : Kn a N L) (hx : ov L x = some (.pointer (some ⟨bl, o, none⟩))) (hy : ov L y = some (.int k i)) (ht : P.underlying t = some (.array ln e)) (hs : (P.info? e).map (·.size) = some sz) (hn : i = (n : Int)) (h1 : n < ln) (w : World) :
    Ev P ⟨dst, .indexAddr t x y, ty, pos, af, g⟩ a w (.pointer (some ⟨bl, o + n * sz, none⟩)) := by
  subst hn
  have h := e_idxA (dst := dst) (ty := ty) (pos := pos) (af := af) (g := g) hk hx hy ht hs (by omega) (by omega) w
  simpa using h
theorem e_idxSn {bl o ln c sz : Nat} {e : TypeId} {i : Int} (n : Nat) (hk : Kn a N L) (hx : ov L x = some (.slice (some ⟨bl, o, none⟩) ln c)) (hy : ov L y = some (.int k i)) (ht : P.underlying t = some (.slice e)) (hs : (P.info? e).map (·.size) = some sz) (hn : i = (n : Int)) (h1 : n < ln) (w : World) :
    Ev P ⟨dst, .indexAddr t x y, ty, pos, af, g⟩ a w (.pointer (some ⟨bl, o + n * sz, none⟩)) := by
  subst hn
  have h := e_idxS (dst := dst) (ty := ty) (pos := pos) (af := af) (g := g) hk hx hy ht hs (by omega) (by omega) w
  simpa using h
/-- Part of a slice, of a known length; not behind the capacity's end. -/
theorem e_slSn {bl o ln c sz : Nat} {e : TypeId} {i j : Int} (n m : Nat) (hk : Kn a N L) (hx : ov L x = some (.slice (some ⟨bl, o, none⟩) ln c)) (hy : ov L y = some (.int k i)) (hz : ov L z = some (.int k' j)) (ht : P.underlying t = some (.slice e)) (hs : (P.info? e).map (·.size) = some sz) (hn : i = (n : Int)) (hm : j = ((n + m : Nat) : Int)) (h2 : n + m ≤ c) (h3 : n < c) (w : World) :
    Ev P ⟨dst, .slice t x (some y) (some z) none, ty, pos, af, g⟩ a w (.slice (some ⟨bl, o + n * sz, none⟩) m (c - n)) := by
  subst hn hm
  have h := e_slS (dst := dst) (ty := ty) (pos := pos) (af := af) (g := g) hk hx hy hz ht hs (by omega) (by omega) (by omega) w
  have e1 : ¬ c = n := by omega
  have e2 : n + m - n = m := by omega
  simpa [e1, e2, Addr.add_lit, -Int.natCast_add] using h
theorem e_slAfromN {bl o ln : Nat} {e : TypeId} {i : Int} (n : Nat) (hk : Kn a N L) (hx : ov L x = some (.pointer (some ⟨bl, o, none⟩))) (hy : ov L y = some (.int k i)) (ht : P.underlying t = some (.array ln e)) (hs : (P.info? e).map (·.size) = some 1) (hn : i = (n : Int)) (h1 : n < ln) (w : World) :
    Ev P ⟨dst, .slice t x (some y) none none, ty, pos, af, g⟩ a w (.slice (some ⟨bl, o + n, none⟩) (ln - n) (ln - n)) := by
  subst hn
  have h := e_slAfrom (dst := dst) (ty := ty) (pos := pos) (af := af) (g := g) hk hx hy ht hs (by omega) (by omega) w
  simpa using h
theorem e_slAtoN {bl o ln : Nat} {e : TypeId} {i : Int} (n : Nat) (hk : Kn a N L) (hx : ov L x = some (.pointer (some ⟨bl, o, none⟩))) (hy : ov L y = some (.int k i)) (ht : P.underlying t = some (.array ln e)) (hs : (P.info? e).map (·.size) = some 1) (hn : i = (n : Int)) (h1 : n ≤ ln) (w : World) :
    Ev P ⟨dst, .slice t x none (some y) none, ty, pos, af, g⟩ a w (.slice (some ⟨bl, o, none⟩) n ln) := by
  subst hn
  have h := e_slAto (dst := dst) (ty := ty) (pos := pos) (af := af) (g := g) hk hx hy ht hs (by omega) (by omega) w
  simpa using h
def pv (L : Fm) : List (Nat × Operand) → Option (List (Nat × Value))
  | [] => some []
  | (i, x) :: r => match ov L x, pv L r with
    | some v, some vs => some ((i, v) :: vs)
    | _, _ => none
theorem Kn.pv {a : Act} {N : Nat} {L : Fm} (hk : Kn a N L) {xs : List (Nat × Operand)} {vs : List (Nat × Value)} (h : pv L xs = some vs) : xs.map (fun p => (p.1, a.eval p.2)) = vs := by
  induction xs generalizing vs with
  | nil => simp [YtidfbboalbchiaaDoor.pv] at h; simp [h]
  | cons p r ih =>
    obtain ⟨i, x⟩ := p
    unfold YtidfbboalbchiaaDoor.pv at h
    split at h
    · rename_i v vs' hv hvs
      cases h
      simp [hk.op hv, ih hvs]
    · cases h
/-- An array's value, out of its elements. -/
theorem e_buildA {ps : List (Nat × Operand)} {vs : List (Nat × Value)} {zv : Value} {n sz : Nat} {e : TypeId} {cells : Array Value} (hk : Kn a N L) (hx : pv L ps = some vs) (hz : (P.info? t).map (·.zero) = some (some zv)) (ht : P.underlying t = some (.array n e)) (hs : (P.info? e).map (·.size) = some sz)
    (hf : Instr.fill (fun i => some (i * sz, sz)) zv.cells vs = some cells) (w : World) : Ev P ⟨dst, .build t ps.toArray, ty, pos, af, g⟩ a w (.agg cells) := by
  have h := hk.pv hx
  cases hq : P.info? t with
  | none => simp [hq] at hz
  | some inf =>
    have hz' : inf.zero = some zv := by simpa [hq] using hz
    cases hq' : P.info? e with
    | none => simp [hq'] at hs
    | some inf' =>
      have hs' : inf'.size = sz := by simpa [hq'] using hs
      simp [Ev, execOp, Instr.build, zeroValue, sizeOf, typeInfo, hq, hz', hq', hs', run_underlying ht, h, hf]
theorem e_slStrFromN {i : Int} (n : Nat) (hk : Kn a N L) (hx : ov L x = some (Str s)) (hy : ov L y = some (.int k i)) (ht : P.underlying t = some .string) (hn : i = (n : Int)) (h1 : n ≤ s.length) (w : World) :
    Ev P ⟨dst, .slice t x (some y) none none, ty, pos, af, g⟩ a w (Str (s.drop n)) := by
  subst hn
  have h := e_slStrFrom (dst := dst) (ty := ty) (pos := pos) (af := af) (g := g) hk hx hy ht (by omega) (by omega) w
  simpa using h
theorem e_slStrToN {i : Int} (n : Nat) (hk : Kn a N L) (hx : ov L x = some (Str s)) (hy : ov L y = some (.int k i)) (ht : P.underlying t = some .string) (hn : i = (n : Int)) (h1 : n ≤ s.length) (w : World) :
    Ev P ⟨dst, .slice t x none (some y) none, ty, pos, af, g⟩ a w (Str (s.take n)) := by
  subst hn
  have h := e_slStrTo (dst := dst) (ty := ty) (pos := pos) (af := af) (g := g) hk hx hy ht (by omega) (by omega) w
  simpa using h
/-- A struct's value, out of its fields. -/
theorem e_buildS {ps : List (Nat × Operand)} {vs : List (Nat × Value)} {zv : Value} {fs : Array Field} {pl : Array (Nat × Nat)} {cells : Array Value} (hk : Kn a N L) (hx : pv L ps = some vs) (hz : (P.info? t).map (·.zero) = some (some zv)) (ht : P.underlying t = some (.struct fs))
    (hp : ∀ w, (fs.mapM fun (f : Field) => (do pure (f.offset, ← sizeOf f.type) : Sem (Nat × Nat))).run P w = .ok pl w) (hf : Instr.fill (pl[·]?) zv.cells vs = some cells) (w : World) : Ev P ⟨dst, .build t ps.toArray, ty, pos, af, g⟩ a w (.agg cells) := by
  have h := hk.pv hx
  cases hq : P.info? t with
  | none => simp [hq] at hz
  | some inf =>
    have hz' : inf.zero = some zv := by simpa [hq] using hz
    have hp' := hp w
    simp only [Ev, execOp, Instr.build]
    simp [zeroValue, typeInfo, hq, hz', run_underlying ht] at hp' ⊢
    rw [hp']
    simp [h, hf]
end
end Go.Proofs.YtidfbboalbchiaaDoor
