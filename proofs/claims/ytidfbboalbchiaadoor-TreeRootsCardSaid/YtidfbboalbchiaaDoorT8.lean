/- Part 8 of the texts that a claim's last texts stand on: EqI, A31, A32. Conditions: those that each theorem names. -/
import Derived.Test.YtidfbboalbchiaaDoorT4
import Derived.Test.YtidfbboalbchiaaDoorT7
namespace Go.Proofs.YtidfbboalbchiaaDoor
open Go Go.RowKit
variable {P : Program}
theorem run_partI {e : TypeId} {inf : TypeInfo} (l : List Int) (i : Nat) (w : World) (he : P.underlying e = some (.int .i64)) (hq : P.info? e = some inf) (hs : inf.size = 1) (hi : i < l.length) : (part e (l.map I).toArray i).run P w = .ok (I l[i]) w := by
  have hagg : (isAgg e).run P w = .ok false w := isAgg_row he rfl
  simp [part, sizeOf, typeInfo, hq, hs, hi, hagg]
theorem eq_loopI (d : Nat) (e : TypeId) (l r : List Int) (w : World) (he : P.underlying e = some (.int .i64)) (inf : TypeInfo) (hq : P.info? e = some inf) (hs : inf.size = 1) (hlr : l.length = r.length) : ∀ (m k : Nat), k + m = l.length →
    Sem.run P (forIn (List.range' k m) ((none, ()) : Option Bool × Unit) fun i __s => do
            let __do_lift ← part e (List.map I l).toArray i
            let __do_lift_1 ← part e (List.map I r).toArray i
            let __do_lift ← Op.equalIn (d + 1) e __do_lift __do_lift_1
            if __do_lift = false then pure (ForInStep.done (some false, ())) else pure (ForInStep.yield (none, ()))) w = .ok (if l.drop k = r.drop k then (none, ()) else (some false, ())) w := by
  intro m
  induction m with
  | zero =>
    intro k hk
    rw [List.drop_of_length_le (by omega), List.drop_of_length_le (by omega)]
    simp
  | succ m ih =>
    intro k hk
    rw [List.range'_succ, List.forIn_cons]
    have h1 : k < l.length := by omega
    have h2 : k < r.length := by omega
    have hd : (l.drop k = r.drop k) ↔ (l[k] = r[k] ∧ l.drop (k + 1) = r.drop (k + 1)) := by
      rw [List.drop_eq_getElem_cons h1, List.drop_eq_getElem_cons h2]
      exact List.cons.injEq _ _ _ _ ▸ Iff.rfl
    simp only [Sem.run_bind, run_partI l k w he hq hs h1, run_partI r k w he hq hs h2, Result.andThen_ok, run_equalIn_int w d e .i64 .i64 _ _ he]
    by_cases hc : l[k] = r[k]
    · have := ih (k + 1) (by omega)
      simp [hd, hc, this]
    · have hb : (l[k] == r[k]) = false := beq_eq_false_iff_ne.2 hc
      simp [hd, hb, hc]
theorem eqAI (d : Nat) (t e : TypeId) (n : Nat) (l r : List Int) (w : World) (ht : P.underlying t = some (.array n e)) (he : P.underlying e = some (.int .i64)) (hs : (P.info? e).map (·.size) = some 1) (hl : l.length = n) (hr : r.length = n) :
    (Op.equalIn (d + 2) t (.agg (l.map I).toArray) (.agg (r.map I).toArray)).run P w = .ok (decide (l = r)) w := by
  cases hq : P.info? e with
  | none => simp [hq] at hs
  | some inf =>
  have hs' : inf.size = 1 := by simpa [hq] using hs
  rw [Op.equalIn]
  simp only [Sem.run_bind, run_underlying ht, Result.andThen_ok]
  simp [sizeOf, typeInfo, hq, hs']
  rw [eq_loopI d e l r w he inf hq hs' (by omega) n 0 (by omega)]
  by_cases h : l = r
  · simp [h]
  · simp [h]
theorem e_eqI {dst : Option Tmp} {ty : TypeId} {pos : String} {af : Array Edge} {g : Option (Nat × Bool)} {N : Nat} {L : Fm} {a : Act} {x y : Operand} {t e t' : TypeId} {n : Nat} {l r : List Int} {b : Bool} (hk : Kn a N L) (hx : ov L x = some (.agg (l.map I).toArray)) (hy : ov L y = some (.agg (r.map I).toArray))
    (ht : P.underlying t = some (.array n e)) (he : P.underlying e = some (.int .i64)) (hs : (P.info? e).map (·.size) = some 1) (hl : l.length = n) (hr : r.length = n) (hg : P.eqGuardType P.depth t = false) (hb : decide (l = r) = b) (w : World) :
    Ev P ⟨dst, .binOp .eql t x y t', ty, pos, af, g⟩ a w (.bool b) := by
  have h := eqAI (P := P) 9998 t e n l r w ht he hs hl hr
  subst hb
  simp only [Ev, execOp, hk.op hx, hk.op hy, Sem.run_bind, run_eqGuard_agg _ _ _ _ _ _ _ hg, Result.andThen_ok, run_eql_struct]
  rw [h]
  rfl
theorem e_neA {dst : Option Tmp} {ty : TypeId} {pos : String} {af : Array Edge} {g : Option (Nat × Bool)} {N : Nat} {L : Fm} {a : Act} {x y : Operand} {t e t' : TypeId} {n : Nat} {l r : List UInt8} {b : Bool} (hk : Kn a N L) (hx : ov L x = some (.agg (l.map B).toArray)) (hy : ov L y = some (.agg (r.map B).toArray))
    (ht : P.underlying t = some (.array n e)) (he : P.underlying e = some (.int .u8)) (hs : (P.info? e).map (·.size) = some 1) (hl : l.length = n) (hr : r.length = n) (hg : P.eqGuardType P.depth t = false) (hb : (!decide (l = r)) = b) (w : World) :
    Ev P ⟨dst, .binOp .neq t x y t', ty, pos, af, g⟩ a w (.bool b) := by
  have h := eqA (P := P) 9998 t e n l r w ht he hs hl hr
  subst hb
  simp only [Ev, execOp, hk.op hx, hk.op hy, Sem.run_bind, run_eqGuard_agg _ _ _ _ _ _ _ hg, Result.andThen_ok, run_neq_struct]
  rw [h]
  rfl
end Go.Proofs.YtidfbboalbchiaaDoor

namespace Go.Proofs.YtidfbboalbchiaaDoor
open Go Go.RowKit

theorem Fra.wroteD {w0 w w' : World} {b : Nat} {o : Obj} (h : Fra (fun _ k => k = b) w0 w) (hW : Wrote w w' b o) : Fra (fun _ k => k = b) w0 w' :=
  ⟨hW.os.trans h.os, hW.tape.trans h.tape, hW.output.trans h.output, Nat.le_trans h.size (Nat.le_of_eq hW.size.symm), fun k hk hn => (hW.other k hn).trans (h.keep k hk hn), fun _ _ hh => hh⟩
theorem fra_range {w w' : World} {bt b o : Nat} {xs : List Value} (h : Fra (fun _ k => k = bt) w w') (hne : b ≠ bt) (hr : w.rangeAt b o xs) : w'.rangeAt b o xs := fun j u hu => by
  have hc := hr j u hu
  have hlt : b < w.heap.size := World.block_lt_of_cell? w _ hc
  unfold World.cell? at hc ⊢
  rw [h.keep b hlt hne]; exact hc
theorem sz141 : (Tryd.prog.info? 141).map (·.size) = some 3 := by kernel_rfl
theorem zr141 : (Tryd.prog.info? 141).map (·.zero) = some (some (.agg #[.slice none 0 0, I 0, I 0])) := by kernel_rfl
theorem eg66 : Tryd.prog.eqGuardType Tryd.prog.depth 66 = false := by kernel_rfl
theorem getD_none {l : List (List UInt8)} {c : Nat} (h : l.length ≤ c) : l.getD c zD = zD := by
  rw [List.getD_eq_getElem?_getD, List.getElem?_eq_none h]; rfl
/-- A taker of digests, c of which were asked for. -/
def tkC (adl : Option Addr) (cl : Nat) (l : List (List UInt8)) (c : Nat) : Array Value := #[.slice adl l.length cl, I ((min c l.length : Nat) : Int), I ((c : Nat) : Int)]

set_option maxRecDepth 4000 in
set_option maxHeartbeats 1000000 in
theorem c107 (l : List (List UInt8)) (adl : Option Addr) (cl bt c₀ : Nat) (w0 : World) (h_bt : w0.heap[bt]? = some (.cells (tkC adl cl l c₀) 141 (0, 0))) (hRl : Rdg w0 adl l.length cl l) (hne : ∀ b o, adl = some ⟨b, o, none⟩ → b ≠ bt) (hln : l.length ≤ 1152921504606846976) (hcn : c₀ ≤ 1152921504606846976) :
    Calls Tryd.prog 107 #[.pointer (some ⟨bt, 0, none⟩)] w0 fun e w' => e = .returned (D (l.getD c₀ zD)) ∧ Fra (fun _ k => k = bt) w0 w' ∧ w'.heap[bt]? = some (.cells (tkC adl cl l (c₀ + 1)) 141 (0, 0)) := by
  have hmin : min c₀ l.length ≤ l.length ∧ min c₀ l.length ≤ c₀ := by omega
  rcases (by omega : l.length ≤ c₀ ∨ c₀ < l.length) with hc | hc
  · refine start 45 Tryd.func107 rfl rfl rfl fun a hk => ?_
    have hF := Fra.refl (fun _ k => k = bt) w0
    refine wp_seq_k fun K1 hK1 => ?_
    refine wp_region_lit ?_
    refine la hk rfl (a_alloc hk rfl zr44 fun a w b2 hk G => ?_)
    have n_bt_b2 : bt ≠ b2 := G.ne h_bt
    have hg_b2 : w0.heap.size ≤ b2 := Nat.le_trans hF.size G.ge
    have h_bt := ext_at G.ext h_bt
    have hF := hF.trans (Fra.ext G.ext (fun _ h => h))
    have h_b2 := G.at_
    clear G
    refine lnil (hK1 _ _ ?_)
    refine wp_seq_k fun K2 hK2 => ?_
    refine wp_region_ok (fun _ => True) [0, 0, 0, 0, 1, 0, 0, 0, 0, 2] mixed ?_
    have h_bt := ext_at (ext_drew w) h_bt
    have h_b2 := ext_at (ext_drew w) h_b2
    have hF := hF.trans (Fra.ext (ext_drew w) (fun _ h => h))
    generalize w.drew = w at *
    refine d0 0 hk rfl (by kernel_rfl) rfl rfl rfl rfl (fun _ => e_move hk rfl _) fun a hk => ?_
    refine d0 1 hk rfl (by kernel_rfl) rfl rfl rfl rfl (fun _ => e_nil hk rfl _) fun a hk => ?_
    refine d0 2 hk rfl (by kernel_rfl) rfl rfl rfl rfl (fun _ => e_field (off := 1) hk rfl Tryd.underlying141 rfl rfl nz66 _) fun a hk => ?_
    refine d0 3 hk rfl (by kernel_rfl) rfl rfl rfl rfl (fun _ => e_idxA1 1 hk rfl rfl Tryd.underlying66 sz3 rfl (by decide) _) fun a hk => ?_
    refine d1 4 hk rfl (by kernel_rfl) rfl rfl rfl rfl (r_load hk rfl Tryd.underlying3 rfl h_bt rfl) fun a hk => ?_
    refine d0 5 hk rfl (by kernel_rfl) rfl rfl rfl rfl (fun _ => e_add (q := ((c₀ + 1 : Nat) : Int)) hk rfl rfl (by rw [i64 (by omega) (by omega)]; omega) _) fun a hk => ?_
    refine d0 6 hk rfl (by kernel_rfl) rfl rfl rfl rfl (fun _ => e_nil hk rfl _) fun a hk => ?_
    refine d0 7 hk rfl (by kernel_rfl) rfl rfl rfl rfl (fun _ => e_field (off := 1) hk rfl Tryd.underlying141 rfl rfl nz66 _) fun a hk => ?_
    refine d0 8 hk rfl (by kernel_rfl) rfl rfl rfl rfl (fun _ => e_idxA1 1 hk rfl rfl Tryd.underlying66 sz3 rfl (by decide) _) fun a hk => ?_
    refine da 9 hk rfl (by kernel_rfl) rfl rfl (a_store hk rfl rfl rfl sz3 h_bt (by simp [tkC]) fun a w hk W => ?_)
    have h_b2 := W.keep (Ne.symm n_bt_b2) h_b2
    have hF := hF.wroteD W
    have h_bt := W.at_
    clear W
    have h_bt : w.heap[bt]? = some (.cells #[.slice _ l.length cl, I ((min c₀ l.length : Nat) : Int), I ((c₀ + 1 : Nat) : Int)] 141 (0, 0)) := h_bt
    refine okFin (by kernel_rfl) (hK2 _ _ ?_)
    refine wp_seq_k fun K3 hK3 => ?_
    refine wp_seq_k fun K4 hK4 => ?_
    refine wp_region_ok (fun _ => True) [0, 0, 0, 0, 1, 0, 0, 0, 1, 0, 0] mixed ?_
    have h_bt := ext_at (ext_drew w) h_bt
    have h_b2 := ext_at (ext_drew w) h_b2
    have hF := hF.trans (Fra.ext (ext_drew w) (fun _ h => h))
    generalize w.drew = w at *
    refine d0 0 hk rfl (by kernel_rfl) rfl rfl rfl rfl (fun _ => e_move hk rfl _) fun a hk => ?_
    refine d0 1 hk rfl (by kernel_rfl) rfl rfl rfl rfl (fun _ => e_nil hk rfl _) fun a hk => ?_
    refine d0 2 hk rfl (by kernel_rfl) rfl rfl rfl rfl (fun _ => e_field (off := 1) hk rfl Tryd.underlying141 rfl rfl nz66 _) fun a hk => ?_
    refine d0 3 hk rfl (by kernel_rfl) rfl rfl rfl rfl (fun _ => e_idxA1 0 hk rfl rfl Tryd.underlying66 sz3 rfl (by decide) _) fun a hk => ?_
    refine d1 4 hk rfl (by kernel_rfl) rfl rfl rfl rfl (r_load hk rfl Tryd.underlying3 rfl h_bt rfl) fun a hk => ?_
    refine d0 5 hk rfl (by kernel_rfl) rfl rfl rfl rfl (fun _ => e_move hk rfl _) fun a hk => ?_
    refine d0 6 hk rfl (by kernel_rfl) rfl rfl rfl rfl (fun _ => e_nil hk rfl _) fun a hk => ?_
    refine d0 7 hk rfl (by kernel_rfl) rfl rfl rfl rfl (fun _ => e_field (off := 0) hk rfl Tryd.underlying141 rfl rfl nz69 _) fun a hk => ?_
    refine d1 8 hk rfl (by kernel_rfl) rfl rfl rfl rfl (r_load hk rfl Tryd.underlying69 rfl h_bt rfl) fun a hk => ?_
    refine d0 9 hk rfl (by kernel_rfl) rfl rfl rfl rfl (fun _ => e_lenS hk rfl Tryd.underlying69 _) fun a hk => ?_
    refine d0 10 hk rfl (by kernel_rfl) rfl rfl rfl rfl (fun _ => e_geq (b := true) hk rfl rfl (decide_eq_true (by omega)) _) fun a hk => ?_
    refine okFin (by kernel_rfl) (hK4 _ _ ?_)
    refine cdT hk rfl ?_
    refine wp_seq_k fun K5 hK5 => ?_
    refine wp_region_lit ?_
    refine ls hk rfl rfl rfl (e_zero44 hk _) fun a hk => ?_
    refine la hk rfl (a_st44 (l := zD) hk rfl rfl rfl h_b2 rfl fun a w hk W => ?_)
    have h_bt := W.keep n_bt_b2 h_bt
    have hF := hF.wrote W hg_b2 (fun _ h => h)
    have h_b2 := W.at_
    clear W
    refine lnil (hK5 _ _ ?_)
    refine wp_ret ?_
    simp only [then_ret]
    exact ret44 (l := zD) hk rfl rfl h_b2 rfl ⟨by rw [getD_none hc], hF, by rw [tkC, show min (c₀ + 1) l.length = min c₀ l.length by omega]; exact h_bt⟩
  · obtain ⟨bd, od, rfl, hrg, hd16⟩ := hRl.get c₀ hc
    have hdne := hne bd od rfl
    refine start 45 Tryd.func107 rfl rfl rfl fun a hk => ?_
    have hF := Fra.refl (fun _ k => k = bt) w0
    refine wp_seq_k fun K1 hK1 => ?_
    refine wp_region_lit ?_
    refine la hk rfl (a_alloc hk rfl zr44 fun a w b2 hk G => ?_)
    have n_bt_b2 : bt ≠ b2 := G.ne h_bt
    have hg_b2 : w0.heap.size ≤ b2 := Nat.le_trans hF.size G.ge
    have h_bt := ext_at G.ext h_bt
    have hF := hF.trans (Fra.ext G.ext (fun _ h => h))
    have h_b2 := G.at_
    clear G
    refine lnil (hK1 _ _ ?_)
    refine wp_seq_k fun K2 hK2 => ?_
    refine wp_region_ok (fun _ => True) [0, 0, 0, 0, 1, 0, 0, 0, 0, 2] mixed ?_
    have h_bt := ext_at (ext_drew w) h_bt
    have h_b2 := ext_at (ext_drew w) h_b2
    have hF := hF.trans (Fra.ext (ext_drew w) (fun _ h => h))
    generalize w.drew = w at *
    refine d0 0 hk rfl (by kernel_rfl) rfl rfl rfl rfl (fun _ => e_move hk rfl _) fun a hk => ?_
    refine d0 1 hk rfl (by kernel_rfl) rfl rfl rfl rfl (fun _ => e_nil hk rfl _) fun a hk => ?_
    refine d0 2 hk rfl (by kernel_rfl) rfl rfl rfl rfl (fun _ => e_field (off := 1) hk rfl Tryd.underlying141 rfl rfl nz66 _) fun a hk => ?_
    refine d0 3 hk rfl (by kernel_rfl) rfl rfl rfl rfl (fun _ => e_idxA1 1 hk rfl rfl Tryd.underlying66 sz3 rfl (by decide) _) fun a hk => ?_
    refine d1 4 hk rfl (by kernel_rfl) rfl rfl rfl rfl (r_load hk rfl Tryd.underlying3 rfl h_bt rfl) fun a hk => ?_
    refine d0 5 hk rfl (by kernel_rfl) rfl rfl rfl rfl (fun _ => e_add (q := ((c₀ + 1 : Nat) : Int)) hk rfl rfl (by rw [i64 (by omega) (by omega)]; omega) _) fun a hk => ?_
    refine d0 6 hk rfl (by kernel_rfl) rfl rfl rfl rfl (fun _ => e_nil hk rfl _) fun a hk => ?_
    refine d0 7 hk rfl (by kernel_rfl) rfl rfl rfl rfl (fun _ => e_field (off := 1) hk rfl Tryd.underlying141 rfl rfl nz66 _) fun a hk => ?_
    refine d0 8 hk rfl (by kernel_rfl) rfl rfl rfl rfl (fun _ => e_idxA1 1 hk rfl rfl Tryd.underlying66 sz3 rfl (by decide) _) fun a hk => ?_
    refine da 9 hk rfl (by kernel_rfl) rfl rfl (a_store hk rfl rfl rfl sz3 h_bt (by simp [tkC]) fun a w hk W => ?_)
    have h_b2 := W.keep (Ne.symm n_bt_b2) h_b2
    have hF := hF.wroteD W
    have h_bt := W.at_
    clear W
    have h_bt : w.heap[bt]? = some (.cells #[.slice _ l.length cl, I ((min c₀ l.length : Nat) : Int), I ((c₀ + 1 : Nat) : Int)] 141 (0, 0)) := h_bt
    refine okFin (by kernel_rfl) (hK2 _ _ ?_)
    refine wp_seq_k fun K3 hK3 => ?_
    refine wp_seq_k fun K4 hK4 => ?_
    refine wp_region_ok (fun _ => True) [0, 0, 0, 0, 1, 0, 0, 0, 1, 0, 0] mixed ?_
    have h_bt := ext_at (ext_drew w) h_bt
    have h_b2 := ext_at (ext_drew w) h_b2
    have hF := hF.trans (Fra.ext (ext_drew w) (fun _ h => h))
    generalize w.drew = w at *
    refine d0 0 hk rfl (by kernel_rfl) rfl rfl rfl rfl (fun _ => e_move hk rfl _) fun a hk => ?_
    refine d0 1 hk rfl (by kernel_rfl) rfl rfl rfl rfl (fun _ => e_nil hk rfl _) fun a hk => ?_
    refine d0 2 hk rfl (by kernel_rfl) rfl rfl rfl rfl (fun _ => e_field (off := 1) hk rfl Tryd.underlying141 rfl rfl nz66 _) fun a hk => ?_
    refine d0 3 hk rfl (by kernel_rfl) rfl rfl rfl rfl (fun _ => e_idxA1 0 hk rfl rfl Tryd.underlying66 sz3 rfl (by decide) _) fun a hk => ?_
    refine d1 4 hk rfl (by kernel_rfl) rfl rfl rfl rfl (r_load hk rfl Tryd.underlying3 rfl h_bt rfl) fun a hk => ?_
    refine d0 5 hk rfl (by kernel_rfl) rfl rfl rfl rfl (fun _ => e_move hk rfl _) fun a hk => ?_
    refine d0 6 hk rfl (by kernel_rfl) rfl rfl rfl rfl (fun _ => e_nil hk rfl _) fun a hk => ?_
    refine d0 7 hk rfl (by kernel_rfl) rfl rfl rfl rfl (fun _ => e_field (off := 0) hk rfl Tryd.underlying141 rfl rfl nz69 _) fun a hk => ?_
    refine d1 8 hk rfl (by kernel_rfl) rfl rfl rfl rfl (r_load hk rfl Tryd.underlying69 rfl h_bt rfl) fun a hk => ?_
    refine d0 9 hk rfl (by kernel_rfl) rfl rfl rfl rfl (fun _ => e_lenS hk rfl Tryd.underlying69 _) fun a hk => ?_
    refine d0 10 hk rfl (by kernel_rfl) rfl rfl rfl rfl (fun _ => e_geq (b := false) hk rfl rfl (decide_eq_false (by omega)) _) fun a hk => ?_
    refine okFin (by kernel_rfl) (hK4 _ _ ?_)
    refine cdF hk rfl ?_
    refine wp_skip (hK3 _ _ ?_)
    refine wp_seq_k fun K5 hK5 => ?_
    refine wp_region_ok (fun _ => True) [0, 0, 0, 0, 1, 0, 0, 0, 0, 2] mixed ?_
    have h_bt := ext_at (ext_drew w) h_bt
    have h_b2 := ext_at (ext_drew w) h_b2
    have hF := hF.trans (Fra.ext (ext_drew w) (fun _ h => h))
    generalize w.drew = w at *
    refine d0 0 hk rfl (by kernel_rfl) rfl rfl rfl rfl (fun _ => e_move hk rfl _) fun a hk => ?_
    refine d0 1 hk rfl (by kernel_rfl) rfl rfl rfl rfl (fun _ => e_nil hk rfl _) fun a hk => ?_
    refine d0 2 hk rfl (by kernel_rfl) rfl rfl rfl rfl (fun _ => e_field (off := 1) hk rfl Tryd.underlying141 rfl rfl nz66 _) fun a hk => ?_
    refine d0 3 hk rfl (by kernel_rfl) rfl rfl rfl rfl (fun _ => e_idxA1 0 hk rfl rfl Tryd.underlying66 sz3 rfl (by decide) _) fun a hk => ?_
    refine d1 4 hk rfl (by kernel_rfl) rfl rfl rfl rfl (r_load hk rfl Tryd.underlying3 rfl h_bt rfl) fun a hk => ?_
    refine d0 5 hk rfl (by kernel_rfl) rfl rfl rfl rfl (fun _ => e_add (q := ((min (c₀ + 1) l.length : Nat) : Int)) hk rfl rfl (by rw [i64 (by omega) (by omega)]; omega) _) fun a hk => ?_
    refine d0 6 hk rfl (by kernel_rfl) rfl rfl rfl rfl (fun _ => e_nil hk rfl _) fun a hk => ?_
    refine d0 7 hk rfl (by kernel_rfl) rfl rfl rfl rfl (fun _ => e_field (off := 1) hk rfl Tryd.underlying141 rfl rfl nz66 _) fun a hk => ?_
    refine d0 8 hk rfl (by kernel_rfl) rfl rfl rfl rfl (fun _ => e_idxA1 0 hk rfl rfl Tryd.underlying66 sz3 rfl (by decide) _) fun a hk => ?_
    refine da 9 hk rfl (by kernel_rfl) rfl rfl (a_store hk rfl rfl rfl sz3 h_bt (by simp) fun a w hk W => ?_)
    have h_b2 := W.keep (Ne.symm n_bt_b2) h_b2
    have hF := hF.wroteD W
    have h_bt := W.at_
    clear W
    have h_bt : w.heap[bt]? = some (.cells (tkC (some ⟨bd, od, none⟩) cl l (c₀ + 1)) 141 (0, 0)) := h_bt
    refine okFin (by kernel_rfl) (hK5 _ _ ?_)
    refine wp_seq_k fun K6 hK6 => ?_
    refine wp_region_ok (fun _ => True) [0, 0, 0, 1, 0, 0, 0, 0, 1, 0, 0, 1, 2] mixed ?_
    have h_bt := ext_at (ext_drew w) h_bt
    have h_b2 := ext_at (ext_drew w) h_b2
    have hF := hF.trans (Fra.ext (ext_drew w) (fun _ h => h))
    generalize w.drew = w at *
    refine d0 0 hk rfl (by kernel_rfl) rfl rfl rfl rfl (fun _ => e_move hk rfl _) fun a hk => ?_
    refine d0 1 hk rfl (by kernel_rfl) rfl rfl rfl rfl (fun _ => e_nil hk rfl _) fun a hk => ?_
    refine d0 2 hk rfl (by kernel_rfl) rfl rfl rfl rfl (fun _ => e_field (off := 0) hk rfl Tryd.underlying141 rfl rfl nz69 _) fun a hk => ?_
    refine d1 3 hk rfl (by kernel_rfl) rfl rfl rfl rfl (r_load hk rfl Tryd.underlying69 rfl h_bt rfl) fun a hk => ?_
    refine d0 4 hk rfl (by kernel_rfl) rfl rfl rfl rfl (fun _ => e_move hk rfl _) fun a hk => ?_
    refine d0 5 hk rfl (by kernel_rfl) rfl rfl rfl rfl (fun _ => e_nil hk rfl _) fun a hk => ?_
    refine d0 6 hk rfl (by kernel_rfl) rfl rfl rfl rfl (fun _ => e_field (off := 1) hk rfl Tryd.underlying141 rfl rfl nz66 _) fun a hk => ?_
    refine d0 7 hk rfl (by kernel_rfl) rfl rfl rfl rfl (fun _ => e_idxA1 0 hk rfl rfl Tryd.underlying66 sz3 rfl (by decide) _) fun a hk => ?_
    refine d1 8 hk rfl (by kernel_rfl) rfl rfl rfl rfl (r_load hk rfl Tryd.underlying3 rfl h_bt rfl) fun a hk => ?_
    refine d0 9 hk rfl (by kernel_rfl) rfl rfl rfl rfl (fun _ => e_sub (q := ((c₀ : Nat) : Int)) hk rfl rfl (by rw [i64 (by omega) (by omega)]; omega) _) fun a hk => ?_
    refine d0 10 hk rfl (by kernel_rfl) rfl rfl rfl rfl (fun _ => e_idxSn c₀ hk rfl rfl Tryd.underlying69 sz44 rfl hc _) fun a hk => ?_
    refine d1 11 hk rfl (by kernel_rfl) rfl rfl rfl rfl (r_ldR44 hk rfl (fra_range hF hdne hrg) hd16) fun a hk => ?_
    refine da 12 hk rfl (by kernel_rfl) rfl rfl (a_st44 hk rfl rfl hd16 h_b2 rfl fun a w hk W => ?_)
    have h_bt := W.keep n_bt_b2 h_bt
    have hF := hF.wrote W hg_b2 (fun _ h => h)
    have h_b2 := W.at_
    clear W
    refine okFin (by kernel_rfl) (hK6 _ _ ?_)
    refine wp_ret ?_
    exact ret44 hk rfl rfl h_b2 hd16 ⟨by rw [getD_zD hc], hF, h_bt⟩

set_option maxRecDepth 4000 in
set_option maxHeartbeats 1000000 in
theorem c110 (l : List (List UInt8)) (adl : Option Addr) (cl bt c₀ : Nat) (w0 : World) (h_bt : w0.heap[bt]? = some (.cells (tkC adl cl l c₀) 141 (0, 0))) :
    Calls Tryd.prog 110 #[.pointer (some ⟨bt, 0, none⟩)] w0 fun e w' => e = .returned (.bool (decide (c₀ = l.length))) ∧ Ext w0 w' := by
  refine start 19 Tryd.func110 rfl rfl rfl fun a hk => ?_
  have hB : Ext w0 w0 := Below.refl _ _
  refine wp_seq_k fun K1 hK1 => ?_
  refine wp_region_lit ?_
  refine ls hk rfl rfl rfl (e_assign hk rfl _) fun a hk => ?_
  refine lnil (hK1 _ _ ?_)
  refine wp_seq_k fun K2 hK2 => ?_
  refine wp_region_ok (fun _ => True) [0, 0, 0, 1, 0, 0, 0, 1, 0, 0, 0, 0, 1, 0, 0, 0, 0] mixed ?_
  have hB := hB.drew
  have h_bt := ext_at (ext_drew w0) h_bt
  refine d0 0 hk rfl (by kernel_rfl) rfl rfl rfl rfl (fun _ => e_move hk rfl _) fun a hk => ?_
  refine d0 1 hk rfl (by kernel_rfl) rfl rfl rfl rfl (fun _ => e_nil hk rfl _) fun a hk => ?_
  refine d0 2 hk rfl (by kernel_rfl) rfl rfl rfl rfl (fun _ => e_field (off := 1) hk rfl Tryd.underlying141 rfl rfl nz66 _) fun a hk => ?_
  refine d1 3 hk rfl (by kernel_rfl) rfl rfl rfl rfl (r_loadR (xs := [I ((min c₀ l.length : Nat) : Int), I ((c₀ : Nat) : Int)]) hk rfl (range_block h_bt (fun i hi => by match i, hi with | 0, _ => rfl | 1, _ => rfl)) Tryd.underlying66 rfl sz66) fun a hk => ?_
  refine d0 4 hk rfl (by kernel_rfl) rfl rfl rfl rfl (fun _ => e_move hk rfl _) fun a hk => ?_
  refine d0 5 hk rfl (by kernel_rfl) rfl rfl rfl rfl (fun _ => e_nil hk rfl _) fun a hk => ?_
  refine d0 6 hk rfl (by kernel_rfl) rfl rfl rfl rfl (fun _ => e_field (off := 0) hk rfl Tryd.underlying141 rfl rfl nz69 _) fun a hk => ?_
  refine d1 7 hk rfl (by kernel_rfl) rfl rfl rfl rfl (r_load hk rfl Tryd.underlying69 rfl h_bt rfl) fun a hk => ?_
  refine d0 8 hk rfl (by kernel_rfl) rfl rfl rfl rfl (fun _ => e_lenS hk rfl Tryd.underlying69 _) fun a hk => ?_
  refine d0 9 hk rfl (by kernel_rfl) rfl rfl rfl rfl (fun _ => e_move hk rfl _) fun a hk => ?_
  refine d0 10 hk rfl (by kernel_rfl) rfl rfl rfl rfl (fun _ => e_nil hk rfl _) fun a hk => ?_
  refine d0 11 hk rfl (by kernel_rfl) rfl rfl rfl rfl (fun _ => e_field (off := 0) hk rfl Tryd.underlying141 rfl rfl nz69 _) fun a hk => ?_
  refine d1 12 hk rfl (by kernel_rfl) rfl rfl rfl rfl (r_load hk rfl Tryd.underlying69 rfl h_bt rfl) fun a hk => ?_
  refine d0 13 hk rfl (by kernel_rfl) rfl rfl rfl rfl (fun _ => e_lenS hk rfl Tryd.underlying69 _) fun a hk => ?_
  refine d0 14 hk rfl (by kernel_rfl) rfl rfl rfl rfl (fun _ => e_buildA (cells := #[I l.length, I l.length]) hk rfl zr66 Tryd.underlying66 sz3 rfl _) fun a hk => ?_
  refine d0 15 hk rfl (by kernel_rfl) rfl rfl rfl rfl (fun _ => e_eqI (l := [((min c₀ l.length : Nat) : Int), ((c₀ : Nat) : Int)]) (r := [(l.length : Int), (l.length : Int)]) (b := decide (c₀ = l.length)) hk rfl rfl Tryd.underlying66 Tryd.underlying3 sz3 rfl rfl eg66 (decide_eq_decide.2 (by simp; omega)) _) fun a hk => ?_
  refine d0 16 hk rfl (by kernel_rfl) rfl rfl rfl rfl (fun _ => e_assign hk rfl _) fun a hk => ?_
  refine okFin (by kernel_rfl) (hK2 _ _ ?_)
  refine wp_ret ?_
  exact ret1 hk rfl rfl ⟨rfl, hB⟩

theorem fra_cell {w w' : World} {bt : Nat} {p : Addr} {v : Value} (h : Fra (fun _ k => k = bt) w w') (hne : p.block ≠ bt) (hc : w.cell? p = some v) : w'.cell? p = some v := by
  have hlt : p.block < w.heap.size := World.block_lt_of_cell? w _ hc
  unfold World.cell? at hc ⊢
  rw [h.keep p.block hlt hne]; exact hc
theorem Rdg.fra {w w' : World} {bt : Nat} {ad : Option Addr} {n c : Nat} {l : List (List UInt8)} (h : Rdg w ad n c l) (hF : Fra (fun _ k => k = bt) w w') (hne : ∀ b o, ad = some ⟨b, o, none⟩ → b ≠ bt) : Rdg w' ad n c l :=
  ⟨⟨h.1.1, h.1.2.1, fun i u hu => by obtain ⟨b, o, e, hc⟩ := h.1.2.2 i u hu; exact ⟨b, o, e, fra_cell hF (hne b o e) hc⟩⟩, h.2⟩
theorem rs_fra {w w' : World} {bt : Nat} {ad : Option Addr} {n c : Nat} {l : List (List UInt8)} (h : Rs w ad n c l) (hF : Fra (fun _ k => k = bt) w w') (hne : ∀ b o, ad = some ⟨b, o, none⟩ → b ≠ bt) : Rs w' ad n c l :=
  ⟨h.1, h.2.1, fun i u hu => by obtain ⟨b, o, e, hc⟩ := h.2.2 i u hu; exact ⟨b, o, e, fra_cell hF (hne b o e) hc⟩⟩

set_option maxRecDepth 4000 in
set_option maxHeartbeats 1000000 in
theorem c106 (N₀ : Int) (nd : Value) (l xs : List (List UInt8)) (hL : Lv xs) (f t : Nat) (htl : t = f + xs.length) (adl ad : Option Addr) (cl c bP bT bq bv bt a₀ b₀ c₀ : Nat) (w0 : World) (h_bt : w0.heap[bt]? = some (.cells (tkC adl cl l c₀) 141 (0, 0))) (hRl : Rdg w0 adl l.length cl l) (hne : ∀ b o, adl = some ⟨b, o, none⟩ → b ≠ bt) (hln : l.length ≤ 1152921504606846976) (hcn : c₀ ≤ 1152921504606846976)
    (h_bP : w0.heap[bP]? = some (.cells #[I N₀, I (f : Nat), nd] 71 (0, 0))) (h_bT : w0.heap[bT]? = some (.cells #[I (t : Nat)] 3 (0, 0))) (h_bq : w0.heap[bq]? = some (.cells #[.pointer (some ⟨bt, 0, none⟩)] 139 (0, 0))) (h_bv : w0.heap[bv]? = some (.cells #[.slice ad xs.length c] 27 (0, 0)))
    (n_bP_bt : bP ≠ bt) (n_bT_bt : bT ≠ bt) (n_bq_bt : bq ≠ bt) (n_bv_bt : bv ≠ bt) (hR : Rs w0 ad xs.length c xs) (hneV : ∀ b o, ad = some ⟨b, o, none⟩ → b ≠ bt) (hG : ∀ w, Fra (fun _ k => k = bt) w0 w → GH w) (hab : a₀ < b₀) (hle : b₀ ≤ 1073741824) :
    Calls Tryd.prog 106 #[I a₀, I b₀, .pointer (some ⟨bP, 0, none⟩), .pointer (some ⟨bT, 0, none⟩), .pointer (some ⟨bq, 0, none⟩), .pointer (some ⟨bv, 0, none⟩)] w0 fun e w' => ∃ x bb c', e = .returned (.tuple #[D x, .bool bb]) ∧ x.length = 16 ∧ Fra (fun _ k => k = bt) w0 w' ∧ w'.heap[bt]? = some (.cells (tkC adl cl l c') 141 (0, 0)) ∧
      (bb = true → (x, c') = chkS (outI f t) (fun a => leafS (xs.getD (a - f) [])) l a₀ b₀ c₀) ∧ (bb = false → c' = c₀ ∧ 2 ≤ b₀ - a₀ ∧ outI f t a₀ b₀ = false) := by
  have hL1 := hL.1
  rcases (by omega : b₀ ≤ f ∨ (¬ b₀ ≤ f ∧ t ≤ a₀) ∨ (¬ b₀ ≤ f ∧ ¬ t ≤ a₀ ∧ b₀ - a₀ = 1) ∨ (¬ b₀ ≤ f ∧ ¬ t ≤ a₀ ∧ ¬ b₀ - a₀ = 1)) with hc | hc | hc | hc
  · have ho : outI f t a₀ b₀ = true := by unfold outI; simp; omega
    refine start 36 Tryd.func106 rfl rfl rfl fun a hk => ?_
    have hF := Fra.refl (fun _ k => k = bt) w0
    refine wp_seq_k fun K1 hK1 => ?_
    refine wp_region_lit ?_
    refine la hk rfl (a_alloc hk rfl zr44 fun a w b8 hk G => ?_)
    have n_bt_b8 : bt ≠ b8 := G.ne h_bt
    have n_bP_b8 : bP ≠ b8 := G.ne h_bP
    have n_bT_b8 : bT ≠ b8 := G.ne h_bT
    have n_bq_b8 : bq ≠ b8 := G.ne h_bq
    have n_bv_b8 : bv ≠ b8 := G.ne h_bv
    have hg_b8 : w0.heap.size ≤ b8 := Nat.le_trans hF.size G.ge
    have h_bt := ext_at G.ext h_bt
    have h_bP := ext_at G.ext h_bP
    have h_bT := ext_at G.ext h_bT
    have h_bq := ext_at G.ext h_bq
    have h_bv := ext_at G.ext h_bv
    have hF := hF.trans (Fra.ext G.ext (fun _ h => h))
    have h_b8 := G.at_
    clear G
    refine ls hk rfl rfl rfl (e_assign hk rfl _) fun a hk => ?_
    refine lnil (hK1 _ _ ?_)
    refine wp_seq_k fun K2 hK2 => ?_
    refine wp_block ?_
    refine wp_seq_k fun K3 hK3 => ?_
    refine wp_region_lit ?_
    refine ls hk rfl rfl rfl (e_move hk rfl _) fun a hk => ?_
    refine ls hk rfl rfl rfl (e_field (off := 1) hk rfl Tryd.underlying71 rfl rfl nz3 _) fun a hk => ?_
    refine ls hk rfl rfl rfl (r_load hk rfl Tryd.underlying3 rfl h_bP rfl) fun a hk => ?_
    refine ls hk rfl rfl rfl (e_leq (b := true) hk rfl rfl (decide_eq_true (by omega)) _) fun a hk => ?_
    refine ls hk rfl rfl rfl (e_move hk rfl _) fun a hk => ?_
    refine lno hk rfl rfl rfl fun a hk => ?_
    refine lno hk rfl rfl rfl fun a hk => ?_
    refine lno hk rfl rfl rfl fun a hk => ?_
    refine ls hk rfl rfl rfl (e_pickT hk rfl rfl _) fun a hk => ?_
    refine ls hk rfl rfl rfl (e_assign hk rfl _) fun a hk => ?_
    refine lnil (hK3 _ _ ?_)
    refine cdT hk rfl ?_
    refine wp_seq_k fun K4 hK4 => ?_
    refine wp_region_lit ?_
    refine ls hk rfl rfl rfl (r_ld1 hk rfl Tryd.underlying139 rfl h_bq) fun a hk => ?_
    refine la hk rfl (a_call hk rfl rfl (c_fn hk rfl ok107) (c107 l adl cl bt c₀ _ h_bt (Rdg.fra hRl hF hne) hne hln hcn) ?_)
    rintro e w ⟨rfl, hE, hbt2⟩
    refine ⟨_, rfl, fun a hk => ?_⟩
    have h_bt := hbt2
    have h_bP := hE.at_ n_bP_bt h_bP
    have h_bT := hE.at_ n_bT_bt h_bT
    have h_bq := hE.at_ n_bq_bt h_bq
    have h_bv := hE.at_ n_bv_bt h_bv
    have h_b8 := hE.at_ (Ne.symm n_bt_b8) h_b8
    have hF := hF.trans hE
    clear hE
    refine la hk rfl (a_st44 (l := l.getD c₀ zD) hk rfl rfl (getD16 hRl.2 c₀) h_b8 rfl fun a w hk W => ?_)
    have h_bt := W.keep n_bt_b8 h_bt
    have h_bP := W.keep n_bP_b8 h_bP
    have h_bT := W.keep n_bT_b8 h_bT
    have h_bq := W.keep n_bq_b8 h_bq
    have h_bv := W.keep n_bv_b8 h_bv
    have hF := hF.wrote W hg_b8 (fun _ h => h)
    have h_b8 := W.at_
    clear W
    refine ls hk rfl rfl rfl (e_assign hk rfl _) fun a hk => ?_
    refine lnil (hK4 _ _ ?_)
    refine wp_ret ?_
    simp only [blk_ret, then_ret]
    exact ret44b hk rfl rfl rfl h_b8 (getD16 hRl.2 c₀) ⟨_, _, _, rfl, getD16 hRl.2 c₀, hF, h_bt, fun _ => by rw [chk_stop ho], by simp⟩
  · have ho : outI f t a₀ b₀ = true := by unfold outI; simp; omega
    refine start 36 Tryd.func106 rfl rfl rfl fun a hk => ?_
    have hF := Fra.refl (fun _ k => k = bt) w0
    refine wp_seq_k fun K1 hK1 => ?_
    refine wp_region_lit ?_
    refine la hk rfl (a_alloc hk rfl zr44 fun a w b8 hk G => ?_)
    have n_bt_b8 : bt ≠ b8 := G.ne h_bt
    have n_bP_b8 : bP ≠ b8 := G.ne h_bP
    have n_bT_b8 : bT ≠ b8 := G.ne h_bT
    have n_bq_b8 : bq ≠ b8 := G.ne h_bq
    have n_bv_b8 : bv ≠ b8 := G.ne h_bv
    have hg_b8 : w0.heap.size ≤ b8 := Nat.le_trans hF.size G.ge
    have h_bt := ext_at G.ext h_bt
    have h_bP := ext_at G.ext h_bP
    have h_bT := ext_at G.ext h_bT
    have h_bq := ext_at G.ext h_bq
    have h_bv := ext_at G.ext h_bv
    have hF := hF.trans (Fra.ext G.ext (fun _ h => h))
    have h_b8 := G.at_
    clear G
    refine ls hk rfl rfl rfl (e_assign hk rfl _) fun a hk => ?_
    refine lnil (hK1 _ _ ?_)
    refine wp_seq_k fun K2 hK2 => ?_
    refine wp_block ?_
    refine wp_seq_k fun K3 hK3 => ?_
    refine wp_region_lit ?_
    refine ls hk rfl rfl rfl (e_move hk rfl _) fun a hk => ?_
    refine ls hk rfl rfl rfl (e_field (off := 1) hk rfl Tryd.underlying71 rfl rfl nz3 _) fun a hk => ?_
    refine ls hk rfl rfl rfl (r_load hk rfl Tryd.underlying3 rfl h_bP rfl) fun a hk => ?_
    refine ls hk rfl rfl rfl (e_leq (b := false) hk rfl rfl (decide_eq_false (by omega)) _) fun a hk => ?_
    refine ls hk rfl rfl rfl (e_move hk rfl _) fun a hk => ?_
    refine ls hk rfl rfl rfl (e_move hk rfl _) fun a hk => ?_
    refine ls hk rfl rfl rfl (r_ld1 hk rfl Tryd.underlying3 rfl h_bT) fun a hk => ?_
    refine ls hk rfl rfl rfl (e_geq (b := true) hk rfl rfl (decide_eq_true (by omega)) _) fun a hk => ?_
    refine ls hk rfl rfl rfl (e_pickF hk rfl rfl _) fun a hk => ?_
    refine ls hk rfl rfl rfl (e_assign hk rfl _) fun a hk => ?_
    refine lnil (hK3 _ _ ?_)
    refine cdT hk rfl ?_
    refine wp_seq_k fun K4 hK4 => ?_
    refine wp_region_lit ?_
    refine ls hk rfl rfl rfl (r_ld1 hk rfl Tryd.underlying139 rfl h_bq) fun a hk => ?_
    refine la hk rfl (a_call hk rfl rfl (c_fn hk rfl ok107) (c107 l adl cl bt c₀ _ h_bt (Rdg.fra hRl hF hne) hne hln hcn) ?_)
    rintro e w ⟨rfl, hE, hbt2⟩
    refine ⟨_, rfl, fun a hk => ?_⟩
    have h_bt := hbt2
    have h_bP := hE.at_ n_bP_bt h_bP
    have h_bT := hE.at_ n_bT_bt h_bT
    have h_bq := hE.at_ n_bq_bt h_bq
    have h_bv := hE.at_ n_bv_bt h_bv
    have h_b8 := hE.at_ (Ne.symm n_bt_b8) h_b8
    have hF := hF.trans hE
    clear hE
    refine la hk rfl (a_st44 (l := l.getD c₀ zD) hk rfl rfl (getD16 hRl.2 c₀) h_b8 rfl fun a w hk W => ?_)
    have h_bt := W.keep n_bt_b8 h_bt
    have h_bP := W.keep n_bP_b8 h_bP
    have h_bT := W.keep n_bT_b8 h_bT
    have h_bq := W.keep n_bq_b8 h_bq
    have h_bv := W.keep n_bv_b8 h_bv
    have hF := hF.wrote W hg_b8 (fun _ h => h)
    have h_b8 := W.at_
    clear W
    refine ls hk rfl rfl rfl (e_assign hk rfl _) fun a hk => ?_
    refine lnil (hK4 _ _ ?_)
    refine wp_ret ?_
    simp only [blk_ret, then_ret]
    exact ret44b hk rfl rfl rfl h_b8 (getD16 hRl.2 c₀) ⟨_, _, _, rfl, getD16 hRl.2 c₀, hF, h_bt, fun _ => by rw [chk_stop ho], by simp⟩
  · have ho : outI f t a₀ b₀ = false := by unfold outI; simp; omega
    obtain ⟨br, orr, rfl, hcell⟩ := rs_at hR (a₀ - f) (by omega)
    have hll := lv_at hL (a₀ - f) (by omega)
    have hbr := hneV br orr rfl
    refine start 36 Tryd.func106 rfl rfl rfl fun a hk => ?_
    have hF := Fra.refl (fun _ k => k = bt) w0
    refine wp_seq_k fun K1 hK1 => ?_
    refine wp_region_lit ?_
    refine la hk rfl (a_alloc hk rfl zr44 fun a w b8 hk G => ?_)
    have n_bt_b8 : bt ≠ b8 := G.ne h_bt
    have n_bP_b8 : bP ≠ b8 := G.ne h_bP
    have n_bT_b8 : bT ≠ b8 := G.ne h_bT
    have n_bq_b8 : bq ≠ b8 := G.ne h_bq
    have n_bv_b8 : bv ≠ b8 := G.ne h_bv
    have hg_b8 : w0.heap.size ≤ b8 := Nat.le_trans hF.size G.ge
    have h_bt := ext_at G.ext h_bt
    have h_bP := ext_at G.ext h_bP
    have h_bT := ext_at G.ext h_bT
    have h_bq := ext_at G.ext h_bq
    have h_bv := ext_at G.ext h_bv
    have hF := hF.trans (Fra.ext G.ext (fun _ h => h))
    have h_b8 := G.at_
    clear G
    refine ls hk rfl rfl rfl (e_assign hk rfl _) fun a hk => ?_
    refine lnil (hK1 _ _ ?_)
    refine wp_seq_k fun K2 hK2 => ?_
    refine wp_block ?_
    refine wp_seq_k fun K3 hK3 => ?_
    refine wp_region_lit ?_
    refine ls hk rfl rfl rfl (e_move hk rfl _) fun a hk => ?_
    refine ls hk rfl rfl rfl (e_field (off := 1) hk rfl Tryd.underlying71 rfl rfl nz3 _) fun a hk => ?_
    refine ls hk rfl rfl rfl (r_load hk rfl Tryd.underlying3 rfl h_bP rfl) fun a hk => ?_
    refine ls hk rfl rfl rfl (e_leq (b := false) hk rfl rfl (decide_eq_false (by omega)) _) fun a hk => ?_
    refine ls hk rfl rfl rfl (e_move hk rfl _) fun a hk => ?_
    refine ls hk rfl rfl rfl (e_move hk rfl _) fun a hk => ?_
    refine ls hk rfl rfl rfl (r_ld1 hk rfl Tryd.underlying3 rfl h_bT) fun a hk => ?_
    refine ls hk rfl rfl rfl (e_geq (b := false) hk rfl rfl (decide_eq_false (by omega)) _) fun a hk => ?_
    refine ls hk rfl rfl rfl (e_pickF hk rfl rfl _) fun a hk => ?_
    refine ls hk rfl rfl rfl (e_assign hk rfl _) fun a hk => ?_
    refine lnil (hK3 _ _ ?_)
    refine cdF hk rfl ?_
    refine wp_seq_k fun K4 hK4 => ?_
    refine wp_region_lit ?_
    refine ls hk rfl rfl rfl (e_move hk rfl _) fun a hk => ?_
    refine ls hk rfl rfl rfl (e_move hk rfl _) fun a hk => ?_
    refine ls hk rfl rfl rfl (e_sub (q := ((b₀ - a₀ : Nat) : Int)) hk rfl rfl (by rw [i64 (by omega) (by omega)]; omega) _) fun a hk => ?_
    refine ls hk rfl rfl rfl (e_eql (b := true) hk rfl rfl (decide_eq_true (by omega)) _) fun a hk => ?_
    refine ls hk rfl rfl rfl (e_assign hk rfl _) fun a hk => ?_
    refine lnil (hK4 _ _ ?_)
    refine cdT hk rfl ?_
    refine wp_seq_k fun K5 hK5 => ?_
    refine wp_region_lit ?_
    refine ls hk rfl rfl rfl (r_ld1 hk rfl Tryd.underlying27 rfl h_bv) fun a hk => ?_
    refine ls hk rfl rfl rfl (e_move hk rfl _) fun a hk => ?_
    refine ls hk rfl rfl rfl (e_field (off := 1) hk rfl Tryd.underlying71 rfl rfl nz3 _) fun a hk => ?_
    refine ls hk rfl rfl rfl (r_load hk rfl Tryd.underlying3 rfl h_bP rfl) fun a hk => ?_
    refine ls hk rfl rfl rfl (e_sub (q := ((a₀ - f : Nat) : Int)) hk rfl rfl (by rw [i64 (by omega) (by omega)]; omega) _) fun a hk => ?_
    refine ls hk rfl rfl rfl (e_idxS1 (a₀ - f) hk rfl rfl Tryd.underlying27 sz9 rfl (by omega) _) fun a hk => ?_
    refine ls hk rfl rfl rfl (r_load1 hk rfl Tryd.underlying9 rfl (fra_cell hF hbr hcell)) fun a hk => ?_
    refine la hk rfl (a_call hk rfl rfl (c_fn hk rfl ok108) (c108 (xs.getD (a₀ - f) []) _ (hG _ hF) hll) ?_)
    rintro e w ⟨rfl, hE⟩
    refine ⟨_, rfl, fun a hk => ?_⟩
    have h_bt := ext_at hE h_bt
    have h_bP := ext_at hE h_bP
    have h_bT := ext_at hE h_bT
    have h_bq := ext_at hE h_bq
    have h_bv := ext_at hE h_bv
    have h_b8 := ext_at hE h_b8
    have hF := hF.trans (Fra.ext hE (fun _ h => h))
    clear hE
    refine la hk rfl (a_st44 (l := leafS (xs.getD (a₀ - f) [])) hk rfl rfl (by simp) h_b8 rfl fun a w hk W => ?_)
    have h_bt := W.keep n_bt_b8 h_bt
    have h_bP := W.keep n_bP_b8 h_bP
    have h_bT := W.keep n_bT_b8 h_bT
    have h_bq := W.keep n_bq_b8 h_bq
    have h_bv := W.keep n_bv_b8 h_bv
    have hF := hF.wrote W hg_b8 (fun _ h => h)
    have h_b8 := W.at_
    clear W
    refine ls hk rfl rfl rfl (e_assign hk rfl _) fun a hk => ?_
    refine lnil (hK5 _ _ ?_)
    refine wp_ret ?_
    simp only [blk_ret, then_ret]
    exact ret44b (l := leafS (xs.getD (a₀ - f) [])) hk rfl rfl rfl h_b8 (by simp) ⟨_, _, c₀, rfl, by simp, hF, h_bt, fun _ => by rw [chk_one ho (show b₀ - a₀ ≤ 1 by omega)], by simp⟩
  · have ho : outI f t a₀ b₀ = false := by unfold outI; simp; omega
    refine start 36 Tryd.func106 rfl rfl rfl fun a hk => ?_
    have hF := Fra.refl (fun _ k => k = bt) w0
    refine wp_seq_k fun K1 hK1 => ?_
    refine wp_region_lit ?_
    refine la hk rfl (a_alloc hk rfl zr44 fun a w b8 hk G => ?_)
    have n_bt_b8 : bt ≠ b8 := G.ne h_bt
    have n_bP_b8 : bP ≠ b8 := G.ne h_bP
    have n_bT_b8 : bT ≠ b8 := G.ne h_bT
    have n_bq_b8 : bq ≠ b8 := G.ne h_bq
    have n_bv_b8 : bv ≠ b8 := G.ne h_bv
    have hg_b8 : w0.heap.size ≤ b8 := Nat.le_trans hF.size G.ge
    have h_bt := ext_at G.ext h_bt
    have h_bP := ext_at G.ext h_bP
    have h_bT := ext_at G.ext h_bT
    have h_bq := ext_at G.ext h_bq
    have h_bv := ext_at G.ext h_bv
    have hF := hF.trans (Fra.ext G.ext (fun _ h => h))
    have h_b8 := G.at_
    clear G
    refine ls hk rfl rfl rfl (e_assign hk rfl _) fun a hk => ?_
    refine lnil (hK1 _ _ ?_)
    refine wp_seq_k fun K2 hK2 => ?_
    refine wp_block ?_
    refine wp_seq_k fun K3 hK3 => ?_
    refine wp_region_lit ?_
    refine ls hk rfl rfl rfl (e_move hk rfl _) fun a hk => ?_
    refine ls hk rfl rfl rfl (e_field (off := 1) hk rfl Tryd.underlying71 rfl rfl nz3 _) fun a hk => ?_
    refine ls hk rfl rfl rfl (r_load hk rfl Tryd.underlying3 rfl h_bP rfl) fun a hk => ?_
    refine ls hk rfl rfl rfl (e_leq (b := false) hk rfl rfl (decide_eq_false (by omega)) _) fun a hk => ?_
    refine ls hk rfl rfl rfl (e_move hk rfl _) fun a hk => ?_
    refine ls hk rfl rfl rfl (e_move hk rfl _) fun a hk => ?_
    refine ls hk rfl rfl rfl (r_ld1 hk rfl Tryd.underlying3 rfl h_bT) fun a hk => ?_
    refine ls hk rfl rfl rfl (e_geq (b := false) hk rfl rfl (decide_eq_false (by omega)) _) fun a hk => ?_
    refine ls hk rfl rfl rfl (e_pickF hk rfl rfl _) fun a hk => ?_
    refine ls hk rfl rfl rfl (e_assign hk rfl _) fun a hk => ?_
    refine lnil (hK3 _ _ ?_)
    refine cdF hk rfl ?_
    refine wp_seq_k fun K4 hK4 => ?_
    refine wp_region_lit ?_
    refine ls hk rfl rfl rfl (e_move hk rfl _) fun a hk => ?_
    refine ls hk rfl rfl rfl (e_move hk rfl _) fun a hk => ?_
    refine ls hk rfl rfl rfl (e_sub (q := ((b₀ - a₀ : Nat) : Int)) hk rfl rfl (by rw [i64 (by omega) (by omega)]; omega) _) fun a hk => ?_
    refine ls hk rfl rfl rfl (e_eql (b := false) hk rfl rfl (decide_eq_false (by omega)) _) fun a hk => ?_
    refine ls hk rfl rfl rfl (e_assign hk rfl _) fun a hk => ?_
    refine lnil (hK4 _ _ ?_)
    refine cdF hk rfl ?_
    refine wp_skip (hK2 _ _ ?_)
    refine wp_seq_k fun K5 hK5 => ?_
    refine wp_region_lit ?_
    refine ls hk rfl rfl rfl (e_zero44 hk _) fun a hk => ?_
    refine la hk rfl (a_st44 (l := zD) hk rfl rfl rfl h_b8 rfl fun a w hk W => ?_)
    have h_bt := W.keep n_bt_b8 h_bt
    have h_bP := W.keep n_bP_b8 h_bP
    have h_bT := W.keep n_bT_b8 h_bT
    have h_bq := W.keep n_bq_b8 h_bq
    have h_bv := W.keep n_bv_b8 h_bv
    have hF := hF.wrote W hg_b8 (fun _ h => h)
    have h_b8 := W.at_
    clear W
    refine ls hk rfl rfl rfl (e_assign hk rfl _) fun a hk => ?_
    refine lnil (hK5 _ _ ?_)
    refine wp_ret ?_
    exact ret44b (l := zD) hk rfl rfl rfl h_b8 rfl ⟨_, _, c₀, rfl, rfl, hF, h_bt, by simp, fun _ => ⟨rfl, by omega, ho⟩⟩

end Go.Proofs.YtidfbboalbchiaaDoor

namespace Go.Proofs.YtidfbboalbchiaaDoor
open Go Go.RowKit

/-- What Check answers. -/
def chkR (rt : List UInt8) (N f : Int) (l xs : List (List UInt8)) : Int :=
  if xs.length = 0 ∨ N < 1 ∨ N > 1073741824 ∨ f < 0 ∨ f > N - xs.length then 1
  else if (chkS (outI f.toNat (f.toNat + xs.length)) (fun a => leafS (xs.getD (a - f.toNat) [])) l 0 N.toNat 0).2 = l.length ∧ (chkS (outI f.toNat (f.toNat + xs.length)) (fun a => leafS (xs.getD (a - f.toNat) [])) l 0 N.toNat 0).1 = rt then 0 else 15
theorem chkR_ok {rt : List UInt8} {N f : Nat} {l xs : List (List UInt8)} (h : ¬ (xs.length = 0 ∨ (N : Int) < 1 ∨ (N : Int) > 1073741824 ∨ (f : Int) < 0 ∨ (f : Int) > (N : Int) - xs.length)) : chkR rt N f l xs =
  if (chkS (outI f (f + xs.length)) (fun a => leafS (xs.getD (a - f) [])) l 0 N 0).2 = l.length ∧ (chkS (outI f (f + xs.length)) (fun a => leafS (xs.getD (a - f) [])) l 0 N 0).1 = rt then 0 else 15 := by
  unfold chkR
  rw [if_neg h]
  rfl
/-- The walk of Check. -/
theorem w105C (N₀ : Int) (nd : Value) (l xs : List (List UInt8)) (hL : Lv xs) (f t N : Nat) (htl : t = f + xs.length) (hN : N ≤ 1073741824) (h0 : 0 < N) (adl ad : Option Addr) (cl c bP bT bq bv bt : Nat) (w : World) (h_bt : w.heap[bt]? = some (.cells (tkC adl cl l 0) 141 (0, 0))) (hRl : Rdg w adl l.length cl l) (hne : ∀ b o, adl = some ⟨b, o, none⟩ → b ≠ bt) (hln : l.length ≤ 1152921504606846976)
    (h_bP : w.heap[bP]? = some (.cells #[I N₀, I (f : Nat), nd] 71 (0, 0))) (h_bT : w.heap[bT]? = some (.cells #[I (t : Nat)] 3 (0, 0))) (h_bq : w.heap[bq]? = some (.cells #[.pointer (some ⟨bt, 0, none⟩)] 139 (0, 0))) (h_bv : w.heap[bv]? = some (.cells #[.slice ad xs.length c] 27 (0, 0)))
    (n_bP_bt : bP ≠ bt) (n_bT_bt : bT ≠ bt) (n_bq_bt : bq ≠ bt) (n_bv_bt : bv ≠ bt) (hR : Rs w ad xs.length c xs) (hneV : ∀ b o, ad = some ⟨b, o, none⟩ → b ≠ bt) (hG : ∀ w', Fra (fun _ k => k = bt) w w' → GH w') :
    Calls Tryd.prog 105 #[I (0 : Nat), I (N : Nat), .func (.func 106) #[] #[.pointer (some ⟨bP, 0, none⟩), .pointer (some ⟨bT, 0, none⟩), .pointer (some ⟨bq, 0, none⟩), .pointer (some ⟨bv, 0, none⟩)], .func (.func 109) #[] #[]] w fun e w' => ∃ x c', e = .returned (D x) ∧ x.length = 16 ∧ Fra (fun _ k => k = bt) w w' ∧ w'.heap[bt]? = some (.cells (tkC adl cl l c') 141 (0, 0)) ∧ (x, c') = chkS (outI f t) (fun a => leafS (xs.getD (a - f) [])) l 0 N 0 := by
  have hlt := heap_lt h_bt
  refine (c105 (S := Nat) (X := List UInt8) (fun x => (x.map B).toArray) (fun x => x.length = 16) dig_enc nodeS (fun _ k => k = bt) (fun s w' => Fra (fun _ k => k = bt) w w' ∧ w'.heap[bt]? = some (.cells (tkC adl cl l s) 141 (0, 0))) (fun a b => outI f t a b = false)
    (fun a b s x s' => a < b → (x, s') = chkS (outI f t) (fun a => leafS (xs.getD (a - f) [])) l a b s) (fun a b s => a < b ∧ s ≤ a) w.heap.size N (by omega) 106 109 [.pointer (some ⟨bP, 0, none⟩), .pointer (some ⟨bT, 0, none⟩), .pointer (some ⟨bq, 0, none⟩), .pointer (some ⟨bv, 0, none⟩)] [] ok106 ok109
    (fun s w1 w2 h hE => ⟨⟨h.1.trans (Fra.ext hE (fun _ h => h)), ext_at hE h.2⟩, fun _ h => h⟩)
    (fun s w1 w2 b o h hb hm hW => ⟨⟨h.1.wrote hW hb (fun _ h => h), hW.keep (fun e => hm e.symm) h.2⟩, fun _ h => h⟩)
    (fun s w1 k h hk => by rw [hk]; exact heap_lt h.2)
    (fun a b s h h2 _ => ⟨by have := hlf_pos (b - a); omega, h.2⟩) (fun a b s x s1 h h2 _ hs => ?_)
    (fun a b s w1 hab hbl hP hJ _ => (c106 N₀ nd l xs hL f t htl adl ad cl c bP bT bq bv bt a b s w1 hJ.2 (hRl.fra hJ.1 hne) hne hln (by omega) (hJ.1.at_ n_bP_bt h_bP) (hJ.1.at_ n_bT_bt h_bT) (hJ.1.at_ n_bq_bt h_bq) (hJ.1.at_ n_bv_bt h_bv) n_bP_bt n_bT_bt n_bq_bt n_bv_bt (rs_fra hR hJ.1 hneV) hneV (fun w2 h2 => hG w2 (hJ.1.trans h2)) hab (by omega)).mono
      fun e w' ⟨x, bb, c', he, hx, hF, hbt, h1, h2⟩ => ⟨x, bb, c', he, hx, ⟨hJ.1.trans hF, hbt⟩, hF, fun hb _ => h1 hb, h2⟩)
    (fun x y s w1 hx hy hJ _ => (c109 x y w1 (hG w1 hJ.1) hx hy).mono fun e w' ⟨he, hE⟩ => ⟨he, length_nodeS _ _, ⟨hJ.1.trans (Fra.ext hE (fun _ h => h)), ext_at hE hJ.2⟩, Fra.ext hE (fun _ h => h)⟩)
    (fun a b s x s1 y s2 hG h2 hx hy hab => ?_) _ 0 N 0 w rfl h0 (Nat.le_refl _) ⟨h0, Nat.le_refl _⟩ ⟨Fra.refl _ _, h_bt⟩ (Nat.le_refl _)).mono fun e w' ⟨x, s', he, hx, hJ, _, hs⟩ => ⟨x, s', he, hx, hJ.1, hJ.2, hs h0⟩
  · have h3 := hlf_lt h2
    have h4 := hlf_pos (b - a)
    have h5 := hs (by omega)
    refine ⟨by omega, ?_⟩
    have h6 := chk_count (outI f t) (fun a => leafS (xs.getD (a - f) [])) l a (a + hlf (b - a)) (by omega) s
    have h7 := stops_len (outI f t) a (a + hlf (b - a)) (by omega)
    rw [← h5] at h6
    simp only at h6
    omega
  · have h3 := hlf_lt h2
    have h4 := hlf_pos (b - a)
    have e1 := hx (by omega)
    have e2 := hy (by omega)
    rw [chk_more hG h2, ← e1]
    simp only
    rw [← e2]

set_option maxRecDepth 4000 in
set_option maxHeartbeats 1000000 in
theorem c55 (rt : List UInt8) (hrt : rt.length = 16) (N₀ f₀ : Int) (l xs : List (List UInt8)) (hL : Lv xs) (adl ad : Option Addr) (cl c : Nat) (w0 : World) (hRl : Rdg w0 adl l.length cl l) (hol : ∀ b o, adl = some ⟨b, o, none⟩ → b < w0.heap.size) (hln : l.length ≤ 1152921504606846976) (hR : Rs w0 ad xs.length c xs) (hov : ∀ b o, ad = some ⟨b, o, none⟩ → b < w0.heap.size) (hG : GH w0) (hN64 : is64 N₀) (hf64 : is64 f₀) :
    Calls Tryd.prog 55 #[D rt, .agg #[I N₀, I f₀, .slice adl l.length cl], .slice ad xs.length c] w0 fun e w' => e = .returned (I (chkR rt N₀ f₀ l xs)) ∧ Ext w0 w' := by
  have hL1 := hL.1
  obtain ⟨hN1, hN2⟩ := hN64
  obtain ⟨hf1, hf2⟩ := hf64
  rcases (by omega : xs.length = 0 ∨ (xs.length ≠ 0 ∧ N₀ < 1) ∨ (xs.length ≠ 0 ∧ ¬ N₀ < 1 ∧ N₀ > 1073741824) ∨ (xs.length ≠ 0 ∧ ¬ N₀ < 1 ∧ ¬ N₀ > 1073741824 ∧ f₀ < 0) ∨ (xs.length ≠ 0 ∧ ¬ N₀ < 1 ∧ ¬ N₀ > 1073741824 ∧ ¬ f₀ < 0 ∧ f₀ > N₀ - xs.length) ∨ (xs.length ≠ 0 ∧ ¬ N₀ < 1 ∧ ¬ N₀ > 1073741824 ∧ ¬ f₀ < 0 ∧ ¬ f₀ > N₀ - xs.length)) with hc | hc | hc | hc | hc | hc
  · have hres : chkR rt N₀ f₀ l xs = 1 := by unfold chkR; rw [if_pos (by omega)]
    refine start 59 Tryd.func55 rfl rfl rfl fun a hk => ?_
    have hB : Ext w0 w0 := Below.refl _ _
    refine wp_seq_k fun K1 hK1 => ?_
    refine wp_region_lit ?_
    refine la hk rfl (a_box hk rfl rfl fun a w b3 hk G => ?_)
    have hg_b3 : w0.heap.size ≤ b3 := Nat.le_trans hB.size G.ge
    have hB := ext_trans hB G.ext
    have h_b3 := G.at_
    clear G
    refine la hk rfl (a_box hk rfl rfl fun a w b4 hk G => ?_)
    have n_b3_b4 : b3 ≠ b4 := G.ne h_b3
    have hg_b4 : w0.heap.size ≤ b4 := Nat.le_trans hB.size G.ge
    have h_b3 := ext_at G.ext h_b3
    have hB := ext_trans hB G.ext
    have h_b4 := G.at_
    clear G
    refine la hk rfl (a_box hk rfl rfl fun a w b5 hk G => ?_)
    have n_b3_b5 : b3 ≠ b5 := G.ne h_b3
    have n_b4_b5 : b4 ≠ b5 := G.ne h_b4
    have hg_b5 : w0.heap.size ≤ b5 := Nat.le_trans hB.size G.ge
    have h_b3 := ext_at G.ext h_b3
    have h_b4 := ext_at G.ext h_b4
    have hB := ext_trans hB G.ext
    have h_b5 := G.at_
    clear G
    refine ls hk rfl rfl rfl (e_assign hk rfl _) fun a hk => ?_
    refine lnil (hK1 _ _ ?_)
    refine wp_seq_k fun K2 hK2 => ?_
    refine wp_seq_k fun K3 hK3 => ?_
    refine wp_region_lit ?_
    refine ls hk rfl rfl rfl (r_ld1 hk rfl Tryd.underlying27 rfl h_b5) fun a hk => ?_
    refine ls hk rfl rfl rfl (e_lenS hk rfl Tryd.underlying27 _) fun a hk => ?_
    refine ls hk rfl rfl rfl (e_eql (b := true) hk rfl rfl (decide_eq_true (by omega)) _) fun a hk => ?_
    refine ls hk rfl rfl rfl (e_move hk rfl _) fun a hk => ?_
    refine lno hk rfl rfl rfl fun a hk => ?_
    refine lno hk rfl rfl rfl fun a hk => ?_
    refine lno hk rfl rfl rfl fun a hk => ?_
    refine ls hk rfl rfl rfl (e_pickT hk rfl rfl _) fun a hk => ?_
    refine ls hk rfl rfl rfl (e_move hk rfl _) fun a hk => ?_
    refine lno hk rfl rfl rfl fun a hk => ?_
    refine lno hk rfl rfl rfl fun a hk => ?_
    refine lno hk rfl rfl rfl fun a hk => ?_
    refine ls hk rfl rfl rfl (e_pickT hk rfl rfl _) fun a hk => ?_
    refine ls hk rfl rfl rfl (e_move hk rfl _) fun a hk => ?_
    refine lno hk rfl rfl rfl fun a hk => ?_
    refine lno hk rfl rfl rfl fun a hk => ?_
    refine lno hk rfl rfl rfl fun a hk => ?_
    refine ls hk rfl rfl rfl (e_pickT hk rfl rfl _) fun a hk => ?_
    refine ls hk rfl rfl rfl (e_move hk rfl _) fun a hk => ?_
    refine lno hk rfl rfl rfl fun a hk => ?_
    refine lno hk rfl rfl rfl fun a hk => ?_
    refine lno hk rfl rfl rfl fun a hk => ?_
    refine lno hk rfl rfl rfl fun a hk => ?_
    refine lno hk rfl rfl rfl fun a hk => ?_
    refine lno hk rfl rfl rfl fun a hk => ?_
    refine lno hk rfl rfl rfl fun a hk => ?_
    refine lno hk rfl rfl rfl fun a hk => ?_
    refine ls hk rfl rfl rfl (e_pickT hk rfl rfl _) fun a hk => ?_
    refine lnil (hK3 _ _ ?_)
    refine cdT hk rfl ?_
    refine wp_seq_k fun K4 hK4 => ?_
    refine wp_region_lit ?_
    refine ls hk rfl rfl rfl (e_assign hk rfl _) fun a hk => ?_
    refine lnil (hK4 _ _ ?_)
    refine wp_ret ?_
    simp only [then_ret]
    exact ret1 hk rfl rfl ⟨by rw [hres], hB⟩
  · have hres : chkR rt N₀ f₀ l xs = 1 := by unfold chkR; rw [if_pos (by omega)]
    refine start 59 Tryd.func55 rfl rfl rfl fun a hk => ?_
    have hB : Ext w0 w0 := Below.refl _ _
    refine wp_seq_k fun K1 hK1 => ?_
    refine wp_region_lit ?_
    refine la hk rfl (a_box hk rfl rfl fun a w b3 hk G => ?_)
    have hg_b3 : w0.heap.size ≤ b3 := Nat.le_trans hB.size G.ge
    have hB := ext_trans hB G.ext
    have h_b3 := G.at_
    clear G
    refine la hk rfl (a_box hk rfl rfl fun a w b4 hk G => ?_)
    have n_b3_b4 : b3 ≠ b4 := G.ne h_b3
    have hg_b4 : w0.heap.size ≤ b4 := Nat.le_trans hB.size G.ge
    have h_b3 := ext_at G.ext h_b3
    have hB := ext_trans hB G.ext
    have h_b4 := G.at_
    clear G
    refine la hk rfl (a_box hk rfl rfl fun a w b5 hk G => ?_)
    have n_b3_b5 : b3 ≠ b5 := G.ne h_b3
    have n_b4_b5 : b4 ≠ b5 := G.ne h_b4
    have hg_b5 : w0.heap.size ≤ b5 := Nat.le_trans hB.size G.ge
    have h_b3 := ext_at G.ext h_b3
    have h_b4 := ext_at G.ext h_b4
    have hB := ext_trans hB G.ext
    have h_b5 := G.at_
    clear G
    refine ls hk rfl rfl rfl (e_assign hk rfl _) fun a hk => ?_
    refine lnil (hK1 _ _ ?_)
    refine wp_seq_k fun K2 hK2 => ?_
    refine wp_seq_k fun K3 hK3 => ?_
    refine wp_region_lit ?_
    refine ls hk rfl rfl rfl (r_ld1 hk rfl Tryd.underlying27 rfl h_b5) fun a hk => ?_
    refine ls hk rfl rfl rfl (e_lenS hk rfl Tryd.underlying27 _) fun a hk => ?_
    refine ls hk rfl rfl rfl (e_eql (b := false) hk rfl rfl (decide_eq_false (by omega)) _) fun a hk => ?_
    refine ls hk rfl rfl rfl (e_move hk rfl _) fun a hk => ?_
    refine ls hk rfl rfl rfl (e_field (off := 0) hk rfl Tryd.underlying71 rfl rfl nz3 _) fun a hk => ?_
    refine ls hk rfl rfl rfl (r_load hk rfl Tryd.underlying3 rfl h_b4 rfl) fun a hk => ?_
    refine ls hk rfl rfl rfl (e_lss (b := true) hk rfl rfl (decide_eq_true (by omega)) _) fun a hk => ?_
    refine ls hk rfl rfl rfl (e_pickF hk rfl rfl _) fun a hk => ?_
    refine ls hk rfl rfl rfl (e_move hk rfl _) fun a hk => ?_
    refine lno hk rfl rfl rfl fun a hk => ?_
    refine lno hk rfl rfl rfl fun a hk => ?_
    refine lno hk rfl rfl rfl fun a hk => ?_
    refine ls hk rfl rfl rfl (e_pickT hk rfl rfl _) fun a hk => ?_
    refine ls hk rfl rfl rfl (e_move hk rfl _) fun a hk => ?_
    refine lno hk rfl rfl rfl fun a hk => ?_
    refine lno hk rfl rfl rfl fun a hk => ?_
    refine lno hk rfl rfl rfl fun a hk => ?_
    refine ls hk rfl rfl rfl (e_pickT hk rfl rfl _) fun a hk => ?_
    refine ls hk rfl rfl rfl (e_move hk rfl _) fun a hk => ?_
    refine lno hk rfl rfl rfl fun a hk => ?_
    refine lno hk rfl rfl rfl fun a hk => ?_
    refine lno hk rfl rfl rfl fun a hk => ?_
    refine lno hk rfl rfl rfl fun a hk => ?_
    refine lno hk rfl rfl rfl fun a hk => ?_
    refine lno hk rfl rfl rfl fun a hk => ?_
    refine lno hk rfl rfl rfl fun a hk => ?_
    refine lno hk rfl rfl rfl fun a hk => ?_
    refine ls hk rfl rfl rfl (e_pickT hk rfl rfl _) fun a hk => ?_
    refine lnil (hK3 _ _ ?_)
    refine cdT hk rfl ?_
    refine wp_seq_k fun K4 hK4 => ?_
    refine wp_region_lit ?_
    refine ls hk rfl rfl rfl (e_assign hk rfl _) fun a hk => ?_
    refine lnil (hK4 _ _ ?_)
    refine wp_ret ?_
    simp only [then_ret]
    exact ret1 hk rfl rfl ⟨by rw [hres], hB⟩
  · have hres : chkR rt N₀ f₀ l xs = 1 := by unfold chkR; rw [if_pos (by omega)]
    refine start 59 Tryd.func55 rfl rfl rfl fun a hk => ?_
    have hB : Ext w0 w0 := Below.refl _ _
    refine wp_seq_k fun K1 hK1 => ?_
    refine wp_region_lit ?_
    refine la hk rfl (a_box hk rfl rfl fun a w b3 hk G => ?_)
    have hg_b3 : w0.heap.size ≤ b3 := Nat.le_trans hB.size G.ge
    have hB := ext_trans hB G.ext
    have h_b3 := G.at_
    clear G
    refine la hk rfl (a_box hk rfl rfl fun a w b4 hk G => ?_)
    have n_b3_b4 : b3 ≠ b4 := G.ne h_b3
    have hg_b4 : w0.heap.size ≤ b4 := Nat.le_trans hB.size G.ge
    have h_b3 := ext_at G.ext h_b3
    have hB := ext_trans hB G.ext
    have h_b4 := G.at_
    clear G
    refine la hk rfl (a_box hk rfl rfl fun a w b5 hk G => ?_)
    have n_b3_b5 : b3 ≠ b5 := G.ne h_b3
    have n_b4_b5 : b4 ≠ b5 := G.ne h_b4
    have hg_b5 : w0.heap.size ≤ b5 := Nat.le_trans hB.size G.ge
    have h_b3 := ext_at G.ext h_b3
    have h_b4 := ext_at G.ext h_b4
    have hB := ext_trans hB G.ext
    have h_b5 := G.at_
    clear G
    refine ls hk rfl rfl rfl (e_assign hk rfl _) fun a hk => ?_
    refine lnil (hK1 _ _ ?_)
    refine wp_seq_k fun K2 hK2 => ?_
    refine wp_seq_k fun K3 hK3 => ?_
    refine wp_region_lit ?_
    refine ls hk rfl rfl rfl (r_ld1 hk rfl Tryd.underlying27 rfl h_b5) fun a hk => ?_
    refine ls hk rfl rfl rfl (e_lenS hk rfl Tryd.underlying27 _) fun a hk => ?_
    refine ls hk rfl rfl rfl (e_eql (b := false) hk rfl rfl (decide_eq_false (by omega)) _) fun a hk => ?_
    refine ls hk rfl rfl rfl (e_move hk rfl _) fun a hk => ?_
    refine ls hk rfl rfl rfl (e_field (off := 0) hk rfl Tryd.underlying71 rfl rfl nz3 _) fun a hk => ?_
    refine ls hk rfl rfl rfl (r_load hk rfl Tryd.underlying3 rfl h_b4 rfl) fun a hk => ?_
    refine ls hk rfl rfl rfl (e_lss (b := false) hk rfl rfl (decide_eq_false (by omega)) _) fun a hk => ?_
    refine ls hk rfl rfl rfl (e_pickF hk rfl rfl _) fun a hk => ?_
    refine ls hk rfl rfl rfl (e_move hk rfl _) fun a hk => ?_
    refine ls hk rfl rfl rfl (e_field (off := 0) hk rfl Tryd.underlying71 rfl rfl nz3 _) fun a hk => ?_
    refine ls hk rfl rfl rfl (r_load hk rfl Tryd.underlying3 rfl h_b4 rfl) fun a hk => ?_
    refine ls hk rfl rfl rfl (e_gtr (b := true) hk rfl rfl (decide_eq_true (by omega)) _) fun a hk => ?_
    refine ls hk rfl rfl rfl (e_pickF hk rfl rfl _) fun a hk => ?_
    refine ls hk rfl rfl rfl (e_move hk rfl _) fun a hk => ?_
    refine lno hk rfl rfl rfl fun a hk => ?_
    refine lno hk rfl rfl rfl fun a hk => ?_
    refine lno hk rfl rfl rfl fun a hk => ?_
    refine ls hk rfl rfl rfl (e_pickT hk rfl rfl _) fun a hk => ?_
    refine ls hk rfl rfl rfl (e_move hk rfl _) fun a hk => ?_
    refine lno hk rfl rfl rfl fun a hk => ?_
    refine lno hk rfl rfl rfl fun a hk => ?_
    refine lno hk rfl rfl rfl fun a hk => ?_
    refine lno hk rfl rfl rfl fun a hk => ?_
    refine lno hk rfl rfl rfl fun a hk => ?_
    refine lno hk rfl rfl rfl fun a hk => ?_
    refine lno hk rfl rfl rfl fun a hk => ?_
    refine lno hk rfl rfl rfl fun a hk => ?_
    refine ls hk rfl rfl rfl (e_pickT hk rfl rfl _) fun a hk => ?_
    refine lnil (hK3 _ _ ?_)
    refine cdT hk rfl ?_
    refine wp_seq_k fun K4 hK4 => ?_
    refine wp_region_lit ?_
    refine ls hk rfl rfl rfl (e_assign hk rfl _) fun a hk => ?_
    refine lnil (hK4 _ _ ?_)
    refine wp_ret ?_
    simp only [then_ret]
    exact ret1 hk rfl rfl ⟨by rw [hres], hB⟩
  · have hres : chkR rt N₀ f₀ l xs = 1 := by unfold chkR; rw [if_pos (by omega)]
    refine start 59 Tryd.func55 rfl rfl rfl fun a hk => ?_
    have hB : Ext w0 w0 := Below.refl _ _
    refine wp_seq_k fun K1 hK1 => ?_
    refine wp_region_lit ?_
    refine la hk rfl (a_box hk rfl rfl fun a w b3 hk G => ?_)
    have hg_b3 : w0.heap.size ≤ b3 := Nat.le_trans hB.size G.ge
    have hB := ext_trans hB G.ext
    have h_b3 := G.at_
    clear G
    refine la hk rfl (a_box hk rfl rfl fun a w b4 hk G => ?_)
    have n_b3_b4 : b3 ≠ b4 := G.ne h_b3
    have hg_b4 : w0.heap.size ≤ b4 := Nat.le_trans hB.size G.ge
    have h_b3 := ext_at G.ext h_b3
    have hB := ext_trans hB G.ext
    have h_b4 := G.at_
    clear G
    refine la hk rfl (a_box hk rfl rfl fun a w b5 hk G => ?_)
    have n_b3_b5 : b3 ≠ b5 := G.ne h_b3
    have n_b4_b5 : b4 ≠ b5 := G.ne h_b4
    have hg_b5 : w0.heap.size ≤ b5 := Nat.le_trans hB.size G.ge
    have h_b3 := ext_at G.ext h_b3
    have h_b4 := ext_at G.ext h_b4
    have hB := ext_trans hB G.ext
    have h_b5 := G.at_
    clear G
    refine ls hk rfl rfl rfl (e_assign hk rfl _) fun a hk => ?_
    refine lnil (hK1 _ _ ?_)
    refine wp_seq_k fun K2 hK2 => ?_
    refine wp_seq_k fun K3 hK3 => ?_
    refine wp_region_lit ?_
    refine ls hk rfl rfl rfl (r_ld1 hk rfl Tryd.underlying27 rfl h_b5) fun a hk => ?_
    refine ls hk rfl rfl rfl (e_lenS hk rfl Tryd.underlying27 _) fun a hk => ?_
    refine ls hk rfl rfl rfl (e_eql (b := false) hk rfl rfl (decide_eq_false (by omega)) _) fun a hk => ?_
    refine ls hk rfl rfl rfl (e_move hk rfl _) fun a hk => ?_
    refine ls hk rfl rfl rfl (e_field (off := 0) hk rfl Tryd.underlying71 rfl rfl nz3 _) fun a hk => ?_
    refine ls hk rfl rfl rfl (r_load hk rfl Tryd.underlying3 rfl h_b4 rfl) fun a hk => ?_
    refine ls hk rfl rfl rfl (e_lss (b := false) hk rfl rfl (decide_eq_false (by omega)) _) fun a hk => ?_
    refine ls hk rfl rfl rfl (e_pickF hk rfl rfl _) fun a hk => ?_
    refine ls hk rfl rfl rfl (e_move hk rfl _) fun a hk => ?_
    refine ls hk rfl rfl rfl (e_field (off := 0) hk rfl Tryd.underlying71 rfl rfl nz3 _) fun a hk => ?_
    refine ls hk rfl rfl rfl (r_load hk rfl Tryd.underlying3 rfl h_b4 rfl) fun a hk => ?_
    refine ls hk rfl rfl rfl (e_gtr (b := false) hk rfl rfl (decide_eq_false (by omega)) _) fun a hk => ?_
    refine ls hk rfl rfl rfl (e_pickF hk rfl rfl _) fun a hk => ?_
    refine ls hk rfl rfl rfl (e_move hk rfl _) fun a hk => ?_
    refine ls hk rfl rfl rfl (e_field (off := 1) hk rfl Tryd.underlying71 rfl rfl nz3 _) fun a hk => ?_
    refine ls hk rfl rfl rfl (r_load hk rfl Tryd.underlying3 rfl h_b4 rfl) fun a hk => ?_
    refine ls hk rfl rfl rfl (e_lss (b := true) hk rfl rfl (decide_eq_true (by omega)) _) fun a hk => ?_
    refine ls hk rfl rfl rfl (e_pickF hk rfl rfl _) fun a hk => ?_
    refine ls hk rfl rfl rfl (e_move hk rfl _) fun a hk => ?_
    refine lno hk rfl rfl rfl fun a hk => ?_
    refine lno hk rfl rfl rfl fun a hk => ?_
    refine lno hk rfl rfl rfl fun a hk => ?_
    refine lno hk rfl rfl rfl fun a hk => ?_
    refine lno hk rfl rfl rfl fun a hk => ?_
    refine lno hk rfl rfl rfl fun a hk => ?_
    refine lno hk rfl rfl rfl fun a hk => ?_
    refine lno hk rfl rfl rfl fun a hk => ?_
    refine ls hk rfl rfl rfl (e_pickT hk rfl rfl _) fun a hk => ?_
    refine lnil (hK3 _ _ ?_)
    refine cdT hk rfl ?_
    refine wp_seq_k fun K4 hK4 => ?_
    refine wp_region_lit ?_
    refine ls hk rfl rfl rfl (e_assign hk rfl _) fun a hk => ?_
    refine lnil (hK4 _ _ ?_)
    refine wp_ret ?_
    simp only [then_ret]
    exact ret1 hk rfl rfl ⟨by rw [hres], hB⟩
  · have hres : chkR rt N₀ f₀ l xs = 1 := by unfold chkR; rw [if_pos (by omega)]
    refine start 59 Tryd.func55 rfl rfl rfl fun a hk => ?_
    have hB : Ext w0 w0 := Below.refl _ _
    refine wp_seq_k fun K1 hK1 => ?_
    refine wp_region_lit ?_
    refine la hk rfl (a_box hk rfl rfl fun a w b3 hk G => ?_)
    have hg_b3 : w0.heap.size ≤ b3 := Nat.le_trans hB.size G.ge
    have hB := ext_trans hB G.ext
    have h_b3 := G.at_
    clear G
    refine la hk rfl (a_box hk rfl rfl fun a w b4 hk G => ?_)
    have n_b3_b4 : b3 ≠ b4 := G.ne h_b3
    have hg_b4 : w0.heap.size ≤ b4 := Nat.le_trans hB.size G.ge
    have h_b3 := ext_at G.ext h_b3
    have hB := ext_trans hB G.ext
    have h_b4 := G.at_
    clear G
    refine la hk rfl (a_box hk rfl rfl fun a w b5 hk G => ?_)
    have n_b3_b5 : b3 ≠ b5 := G.ne h_b3
    have n_b4_b5 : b4 ≠ b5 := G.ne h_b4
    have hg_b5 : w0.heap.size ≤ b5 := Nat.le_trans hB.size G.ge
    have h_b3 := ext_at G.ext h_b3
    have h_b4 := ext_at G.ext h_b4
    have hB := ext_trans hB G.ext
    have h_b5 := G.at_
    clear G
    refine ls hk rfl rfl rfl (e_assign hk rfl _) fun a hk => ?_
    refine lnil (hK1 _ _ ?_)
    refine wp_seq_k fun K2 hK2 => ?_
    refine wp_seq_k fun K3 hK3 => ?_
    refine wp_region_lit ?_
    refine ls hk rfl rfl rfl (r_ld1 hk rfl Tryd.underlying27 rfl h_b5) fun a hk => ?_
    refine ls hk rfl rfl rfl (e_lenS hk rfl Tryd.underlying27 _) fun a hk => ?_
    refine ls hk rfl rfl rfl (e_eql (b := false) hk rfl rfl (decide_eq_false (by omega)) _) fun a hk => ?_
    refine ls hk rfl rfl rfl (e_move hk rfl _) fun a hk => ?_
    refine ls hk rfl rfl rfl (e_field (off := 0) hk rfl Tryd.underlying71 rfl rfl nz3 _) fun a hk => ?_
    refine ls hk rfl rfl rfl (r_load hk rfl Tryd.underlying3 rfl h_b4 rfl) fun a hk => ?_
    refine ls hk rfl rfl rfl (e_lss (b := false) hk rfl rfl (decide_eq_false (by omega)) _) fun a hk => ?_
    refine ls hk rfl rfl rfl (e_pickF hk rfl rfl _) fun a hk => ?_
    refine ls hk rfl rfl rfl (e_move hk rfl _) fun a hk => ?_
    refine ls hk rfl rfl rfl (e_field (off := 0) hk rfl Tryd.underlying71 rfl rfl nz3 _) fun a hk => ?_
    refine ls hk rfl rfl rfl (r_load hk rfl Tryd.underlying3 rfl h_b4 rfl) fun a hk => ?_
    refine ls hk rfl rfl rfl (e_gtr (b := false) hk rfl rfl (decide_eq_false (by omega)) _) fun a hk => ?_
    refine ls hk rfl rfl rfl (e_pickF hk rfl rfl _) fun a hk => ?_
    refine ls hk rfl rfl rfl (e_move hk rfl _) fun a hk => ?_
    refine ls hk rfl rfl rfl (e_field (off := 1) hk rfl Tryd.underlying71 rfl rfl nz3 _) fun a hk => ?_
    refine ls hk rfl rfl rfl (r_load hk rfl Tryd.underlying3 rfl h_b4 rfl) fun a hk => ?_
    refine ls hk rfl rfl rfl (e_lss (b := false) hk rfl rfl (decide_eq_false (by omega)) _) fun a hk => ?_
    refine ls hk rfl rfl rfl (e_pickF hk rfl rfl _) fun a hk => ?_
    refine ls hk rfl rfl rfl (e_move hk rfl _) fun a hk => ?_
    refine ls hk rfl rfl rfl (e_field (off := 1) hk rfl Tryd.underlying71 rfl rfl nz3 _) fun a hk => ?_
    refine ls hk rfl rfl rfl (r_load hk rfl Tryd.underlying3 rfl h_b4 rfl) fun a hk => ?_
    refine ls hk rfl rfl rfl (e_field (off := 0) hk rfl Tryd.underlying71 rfl rfl nz3 _) fun a hk => ?_
    refine ls hk rfl rfl rfl (r_load hk rfl Tryd.underlying3 rfl h_b4 rfl) fun a hk => ?_
    refine ls hk rfl rfl rfl (r_ld1 hk rfl Tryd.underlying27 rfl h_b5) fun a hk => ?_
    refine ls hk rfl rfl rfl (e_lenS hk rfl Tryd.underlying27 _) fun a hk => ?_
    refine ls hk rfl rfl rfl (e_sub hk rfl rfl (i64 (by omega) (by omega)) _) fun a hk => ?_
    refine ls hk rfl rfl rfl (e_gtr (b := true) hk rfl rfl (decide_eq_true (by omega)) _) fun a hk => ?_
    refine ls hk rfl rfl rfl (e_pickF hk rfl rfl _) fun a hk => ?_
    refine lnil (hK3 _ _ ?_)
    refine cdT hk rfl ?_
    refine wp_seq_k fun K4 hK4 => ?_
    refine wp_region_lit ?_
    refine ls hk rfl rfl rfl (e_assign hk rfl _) fun a hk => ?_
    refine lnil (hK4 _ _ ?_)
    refine wp_ret ?_
    simp only [then_ret]
    exact ret1 hk rfl rfl ⟨by rw [hres], hB⟩
  · obtain ⟨f, rfl⟩ : ∃ k : Nat, f₀ = k := ⟨f₀.toNat, by omega⟩
    obtain ⟨N, rfl⟩ : ∃ k : Nat, N₀ = k := ⟨N₀.toNat, by omega⟩
    have hres := chkR_ok (rt := rt) (l := l) (N := N) (f := f) (xs := xs) (by omega)
    refine start 59 Tryd.func55 rfl rfl rfl fun a hk => ?_
    have hB : Ext w0 w0 := Below.refl _ _
    refine wp_seq_k fun K1 hK1 => ?_
    refine wp_region_lit ?_
    refine la hk rfl (a_box hk rfl rfl fun a w b3 hk G => ?_)
    have hg_b3 : w0.heap.size ≤ b3 := Nat.le_trans hB.size G.ge
    have hB := ext_trans hB G.ext
    have h_b3 := G.at_
    clear G
    refine la hk rfl (a_box hk rfl rfl fun a w b4 hk G => ?_)
    have n_b3_b4 : b3 ≠ b4 := G.ne h_b3
    have hg_b4 : w0.heap.size ≤ b4 := Nat.le_trans hB.size G.ge
    have h_b3 := ext_at G.ext h_b3
    have hB := ext_trans hB G.ext
    have h_b4 := G.at_
    clear G
    refine la hk rfl (a_box hk rfl rfl fun a w b5 hk G => ?_)
    have n_b3_b5 : b3 ≠ b5 := G.ne h_b3
    have n_b4_b5 : b4 ≠ b5 := G.ne h_b4
    have hg_b5 : w0.heap.size ≤ b5 := Nat.le_trans hB.size G.ge
    have h_b3 := ext_at G.ext h_b3
    have h_b4 := ext_at G.ext h_b4
    have hB := ext_trans hB G.ext
    have h_b5 := G.at_
    clear G
    refine ls hk rfl rfl rfl (e_assign hk rfl _) fun a hk => ?_
    refine lnil (hK1 _ _ ?_)
    refine wp_seq_k fun K2 hK2 => ?_
    refine wp_seq_k fun K3 hK3 => ?_
    refine wp_region_lit ?_
    refine ls hk rfl rfl rfl (r_ld1 hk rfl Tryd.underlying27 rfl h_b5) fun a hk => ?_
    refine ls hk rfl rfl rfl (e_lenS hk rfl Tryd.underlying27 _) fun a hk => ?_
    refine ls hk rfl rfl rfl (e_eql (b := false) hk rfl rfl (decide_eq_false (by omega)) _) fun a hk => ?_
    refine ls hk rfl rfl rfl (e_move hk rfl _) fun a hk => ?_
    refine ls hk rfl rfl rfl (e_field (off := 0) hk rfl Tryd.underlying71 rfl rfl nz3 _) fun a hk => ?_
    refine ls hk rfl rfl rfl (r_load hk rfl Tryd.underlying3 rfl h_b4 rfl) fun a hk => ?_
    refine ls hk rfl rfl rfl (e_lss (b := false) hk rfl rfl (decide_eq_false (by omega)) _) fun a hk => ?_
    refine ls hk rfl rfl rfl (e_pickF hk rfl rfl _) fun a hk => ?_
    refine ls hk rfl rfl rfl (e_move hk rfl _) fun a hk => ?_
    refine ls hk rfl rfl rfl (e_field (off := 0) hk rfl Tryd.underlying71 rfl rfl nz3 _) fun a hk => ?_
    refine ls hk rfl rfl rfl (r_load hk rfl Tryd.underlying3 rfl h_b4 rfl) fun a hk => ?_
    refine ls hk rfl rfl rfl (e_gtr (b := false) hk rfl rfl (decide_eq_false (by omega)) _) fun a hk => ?_
    refine ls hk rfl rfl rfl (e_pickF hk rfl rfl _) fun a hk => ?_
    refine ls hk rfl rfl rfl (e_move hk rfl _) fun a hk => ?_
    refine ls hk rfl rfl rfl (e_field (off := 1) hk rfl Tryd.underlying71 rfl rfl nz3 _) fun a hk => ?_
    refine ls hk rfl rfl rfl (r_load hk rfl Tryd.underlying3 rfl h_b4 rfl) fun a hk => ?_
    refine ls hk rfl rfl rfl (e_lss (b := false) hk rfl rfl (decide_eq_false (by omega)) _) fun a hk => ?_
    refine ls hk rfl rfl rfl (e_pickF hk rfl rfl _) fun a hk => ?_
    refine ls hk rfl rfl rfl (e_move hk rfl _) fun a hk => ?_
    refine ls hk rfl rfl rfl (e_field (off := 1) hk rfl Tryd.underlying71 rfl rfl nz3 _) fun a hk => ?_
    refine ls hk rfl rfl rfl (r_load hk rfl Tryd.underlying3 rfl h_b4 rfl) fun a hk => ?_
    refine ls hk rfl rfl rfl (e_field (off := 0) hk rfl Tryd.underlying71 rfl rfl nz3 _) fun a hk => ?_
    refine ls hk rfl rfl rfl (r_load hk rfl Tryd.underlying3 rfl h_b4 rfl) fun a hk => ?_
    refine ls hk rfl rfl rfl (r_ld1 hk rfl Tryd.underlying27 rfl h_b5) fun a hk => ?_
    refine ls hk rfl rfl rfl (e_lenS hk rfl Tryd.underlying27 _) fun a hk => ?_
    refine ls hk rfl rfl rfl (e_sub hk rfl rfl (i64 (by omega) (by omega)) _) fun a hk => ?_
    refine ls hk rfl rfl rfl (e_gtr (b := false) hk rfl rfl (decide_eq_false (by omega)) _) fun a hk => ?_
    refine ls hk rfl rfl rfl (e_pickF hk rfl rfl _) fun a hk => ?_
    refine lnil (hK3 _ _ ?_)
    refine cdF hk rfl ?_
    refine wp_skip (hK2 _ _ ?_)
    refine wp_seq_k fun K4 hK4 => ?_
    refine wp_region_lit ?_
    refine ls hk rfl rfl rfl (e_field (off := 1) hk rfl Tryd.underlying71 rfl rfl nz3 _) fun a hk => ?_
    refine ls hk rfl rfl rfl (r_load hk rfl Tryd.underlying3 rfl h_b4 rfl) fun a hk => ?_
    refine ls hk rfl rfl rfl (r_ld1 hk rfl Tryd.underlying27 rfl h_b5) fun a hk => ?_
    refine ls hk rfl rfl rfl (e_lenS hk rfl Tryd.underlying27 _) fun a hk => ?_
    refine ls hk rfl rfl rfl (e_add (q := ((f + xs.length : Nat) : Int)) hk rfl rfl (by rw [i64 (by omega) (by omega)]; omega) _) fun a hk => ?_
    refine la hk rfl (a_alloc hk rfl zr3 fun a w b7 hk G => ?_)
    have n_b3_b7 : b3 ≠ b7 := G.ne h_b3
    have n_b4_b7 : b4 ≠ b7 := G.ne h_b4
    have n_b5_b7 : b5 ≠ b7 := G.ne h_b5
    have hg_b7 : w0.heap.size ≤ b7 := Nat.le_trans hB.size G.ge
    have h_b3 := ext_at G.ext h_b3
    have h_b4 := ext_at G.ext h_b4
    have h_b5 := ext_at G.ext h_b5
    have hB := ext_trans hB G.ext
    have h_b7 := G.at_
    clear G
    refine la hk rfl (a_st1 hk rfl rfl rfl sz3 h_b7 fun a w hk W => ?_)
    have h_b3 := W.keep n_b3_b7 h_b3
    have h_b4 := W.keep n_b4_b7 h_b4
    have h_b5 := W.keep n_b5_b7 h_b5
    have hB := W.below hB hg_b7
    have h_b7 := W.at_
    clear W
    refine lnil (hK4 _ _ ?_)
    refine wp_seq_k fun K5 hK5 => ?_
    have hneL : ∀ b o, adl = some ⟨b, o, none⟩ → w0.heap.size ≤ b → False := fun b o e h => by have := hol b o e; omega
    refine wp_region_lit ?_
    refine ls hk rfl rfl rfl (e_field (off := 2) hk rfl Tryd.underlying71 rfl rfl nz69 _) fun a hk => ?_
    refine ls hk rfl rfl rfl (r_load hk rfl Tryd.underlying69 rfl h_b4 rfl) fun a hk => ?_
    refine ls hk rfl rfl rfl (e_buildS (cells := #[.slice adl l.length cl, I 0, I 0]) (pl := #[(0, 1), (1, 2)]) hk rfl zr141 Tryd.underlying141 (fun w => by kernel_rfl) rfl _) fun a hk => ?_
    refine la hk rfl (a_box hk rfl rfl fun a w b46 hk G => ?_)
    have n_b3_b46 : b3 ≠ b46 := G.ne h_b3
    have n_b4_b46 : b4 ≠ b46 := G.ne h_b4
    have n_b5_b46 : b5 ≠ b46 := G.ne h_b5
    have n_b7_b46 : b7 ≠ b46 := G.ne h_b7
    have hg_b46 : w0.heap.size ≤ b46 := Nat.le_trans hB.size G.ge
    have h_b3 := ext_at G.ext h_b3
    have h_b4 := ext_at G.ext h_b4
    have h_b5 := ext_at G.ext h_b5
    have h_b7 := ext_at G.ext h_b7
    have hB := ext_trans hB G.ext
    have h_b46 := G.at_
    clear G
    refine la hk rfl (a_alloc hk rfl zr139 fun a w b8 hk G => ?_)
    have n_b3_b8 : b3 ≠ b8 := G.ne h_b3
    have n_b4_b8 : b4 ≠ b8 := G.ne h_b4
    have n_b5_b8 : b5 ≠ b8 := G.ne h_b5
    have n_b7_b8 : b7 ≠ b8 := G.ne h_b7
    have n_b46_b8 : b46 ≠ b8 := G.ne h_b46
    have hg_b8 : w0.heap.size ≤ b8 := Nat.le_trans hB.size G.ge
    have h_b3 := ext_at G.ext h_b3
    have h_b4 := ext_at G.ext h_b4
    have h_b5 := ext_at G.ext h_b5
    have h_b7 := ext_at G.ext h_b7
    have h_b46 := ext_at G.ext h_b46
    have hB := ext_trans hB G.ext
    have h_b8 := G.at_
    clear G
    refine la hk rfl (a_st1 hk rfl rfl rfl sz139 h_b8 fun a w hk W => ?_)
    have h_b3 := W.keep n_b3_b8 h_b3
    have h_b4 := W.keep n_b4_b8 h_b4
    have h_b5 := W.keep n_b5_b8 h_b5
    have h_b7 := W.keep n_b7_b8 h_b7
    have h_b46 := W.keep n_b46_b8 h_b46
    have hB := W.below hB hg_b8
    have h_b8 := W.at_
    clear W
    refine lnil (hK5 _ _ ?_)
    refine wp_seq_k fun K6 hK6 => ?_
    refine wp_region_lit ?_
    refine ls hk rfl rfl rfl (e_field (off := 0) hk rfl Tryd.underlying71 rfl rfl nz3 _) fun a hk => ?_
    refine ls hk rfl rfl rfl (r_load hk rfl Tryd.underlying3 rfl h_b4 rfl) fun a hk => ?_
    refine ls hk rfl rfl rfl (e_func hk rfl rfl _) fun a hk => ?_
    refine la hk rfl (a_call hk rfl rfl (c_fn hk rfl ok105) (w105C N (.slice adl l.length cl) l xs hL f (f + xs.length) N rfl (by omega) (by omega) adl ad cl c b4 b7 b8 b5 b46 _ (by have h := h_b46; rw [tkC, Nat.zero_min]; exact h) (hRl.ext hB) (fun b o e h => by have := hol b o e; omega) (by omega) h_b4 h_b7 h_b8 h_b5 n_b4_b46 n_b7_b46 (Ne.symm n_b46_b8) n_b5_b46 (Rd.ext hR hB) (fun b o e h => by have := hov b o e; omega) (fun w' h => hG.ext (h.below hB hB.size (fun k hk e => by rw [e] at hk; exact absurd hg_b46 (Nat.not_le.2 hk))))) ?_)
    rintro e w ⟨x, cnt, rfl, hx16, hE, hbt2, hxc⟩
    refine ⟨_, rfl, fun a hk => ?_⟩
    have hB2 := hE.below hB hB.size (fun k hk e => by rw [e] at hk; exact absurd hg_b46 (Nat.not_le.2 hk))
    have h_b3 := hE.at_ n_b3_b46 h_b3
    have h_b4 := hE.at_ n_b4_b46 h_b4
    have h_b5 := hE.at_ n_b5_b46 h_b5
    have h_b7 := hE.at_ n_b7_b46 h_b7
    have h_b8 := hE.at_ (Ne.symm n_b46_b8) h_b8
    have h_b46 := hbt2
    clear hB
    have hB := hB2
    clear hE hB2 hbt2
    refine la hk rfl (a_alloc hk rfl zr44 fun a w b9 hk G => ?_)
    have n_b3_b9 : b3 ≠ b9 := G.ne h_b3
    have n_b4_b9 : b4 ≠ b9 := G.ne h_b4
    have n_b5_b9 : b5 ≠ b9 := G.ne h_b5
    have n_b7_b9 : b7 ≠ b9 := G.ne h_b7
    have n_b46_b9 : b46 ≠ b9 := G.ne h_b46
    have n_b8_b9 : b8 ≠ b9 := G.ne h_b8
    have hg_b9 : w0.heap.size ≤ b9 := Nat.le_trans hB.size G.ge
    have h_b3 := ext_at G.ext h_b3
    have h_b4 := ext_at G.ext h_b4
    have h_b5 := ext_at G.ext h_b5
    have h_b7 := ext_at G.ext h_b7
    have h_b46 := ext_at G.ext h_b46
    have h_b8 := ext_at G.ext h_b8
    have hB := ext_trans hB G.ext
    have h_b9 := G.at_
    clear G
    refine la hk rfl (a_st44 hk rfl rfl hx16 h_b9 rfl fun a w hk W => ?_)
    have h_b3 := W.keep n_b3_b9 h_b3
    have h_b4 := W.keep n_b4_b9 h_b4
    have h_b5 := W.keep n_b5_b9 h_b5
    have h_b7 := W.keep n_b7_b9 h_b7
    have h_b46 := W.keep n_b46_b9 h_b46
    have h_b8 := W.keep n_b8_b9 h_b8
    have hB := W.below hB hg_b9
    have h_b9 := W.at_
    clear W
    refine lnil (hK6 _ _ ?_)
    refine wp_seq_k fun K7 hK7 => ?_
    refine wp_seq_k fun K8 hK8 => ?_
    by_cases hcnt : cnt = l.length
    · have hkk := decide_eq_true hcnt
      refine wp_region_lit ?_
      refine ls hk rfl rfl rfl (r_ld1 hk rfl Tryd.underlying139 rfl h_b8) fun a hk => ?_
      refine la hk rfl (a_call hk rfl rfl (c_fn hk rfl ok110) (c110 l adl cl b46 cnt _ h_b46) ?_)
      rintro e w ⟨rfl, hE⟩
      refine ⟨_, rfl, fun a hk => ?_⟩
      have h_b3 := ext_at hE h_b3
      have h_b4 := ext_at hE h_b4
      have h_b5 := ext_at hE h_b5
      have h_b7 := ext_at hE h_b7
      have h_b46 := ext_at hE h_b46
      have h_b8 := ext_at hE h_b8
      have h_b9 := ext_at hE h_b9
      have hB := ext_trans hB hE
      clear hE
      rw [decide_eq_true hcnt] at hk
      refine ls hk rfl rfl rfl (e_not hk rfl _) fun a hk => ?_
      refine ls hk rfl rfl rfl (e_move hk rfl _) fun a hk => ?_
      refine ls hk rfl rfl rfl (r_ld44 hk rfl h_b9 hx16) fun a hk => ?_
      refine ls hk rfl rfl rfl (r_ld44 hk rfl h_b3 hrt) fun a hk => ?_
      refine ls hk rfl rfl rfl (e_neA (l := x) (r := rt) hk rfl rfl Tryd.underlying44 Tryd.underlying5 sz5 hx16 hrt eg44 rfl _) fun a hk => ?_
      refine ls hk rfl rfl rfl (e_pickF hk rfl rfl _) fun a hk => ?_
      refine lnil (hK8 _ _ ?_)
      refine cdB hk rfl (fun hb => ?_) (fun hb => ?_)
      · have hne2 : ¬ x = rt := by simpa using hb
        have hz : chkR rt N f l xs = 15 := by rw [hres, ← hxc, if_neg (fun h => hne2 h.2)]
        refine wp_seq_k fun K9 hK9 => ?_
        refine wp_region_lit ?_
        refine ls hk rfl rfl rfl (e_assign hk rfl _) fun a hk => ?_
        refine lnil (hK9 _ _ ?_)
        refine wp_ret ?_
        simp only [then_ret]
        exact ret1 hk rfl rfl ⟨by rw [hz], hB⟩
      · have he2 : x = rt := by simpa using hb
        have hz : chkR rt N f l xs = 0 := by rw [hres, ← hxc, if_pos ⟨hcnt, he2⟩]
        refine wp_skip (hK7 _ _ ?_)
        refine wp_seq_k fun K10 hK10 => ?_
        refine wp_region_lit ?_
        refine ls hk rfl rfl rfl (e_assign hk rfl _) fun a hk => ?_
        refine lnil (hK10 _ _ ?_)
        refine wp_ret ?_
        exact ret1 hk rfl rfl ⟨by rw [hz], hB⟩
    · have hz : chkR rt N f l xs = 15 := by rw [hres, ← hxc, if_neg (fun h => hcnt h.1)]
      refine wp_region_lit ?_
      refine ls hk rfl rfl rfl (r_ld1 hk rfl Tryd.underlying139 rfl h_b8) fun a hk => ?_
      refine la hk rfl (a_call hk rfl rfl (c_fn hk rfl ok110) (c110 l adl cl b46 cnt _ h_b46) ?_)
      rintro e w ⟨rfl, hE⟩
      refine ⟨_, rfl, fun a hk => ?_⟩
      have h_b3 := ext_at hE h_b3
      have h_b4 := ext_at hE h_b4
      have h_b5 := ext_at hE h_b5
      have h_b7 := ext_at hE h_b7
      have h_b46 := ext_at hE h_b46
      have h_b8 := ext_at hE h_b8
      have h_b9 := ext_at hE h_b9
      have hB := ext_trans hB hE
      clear hE
      rw [decide_eq_false hcnt] at hk
      refine ls hk rfl rfl rfl (e_not hk rfl _) fun a hk => ?_
      refine ls hk rfl rfl rfl (e_move hk rfl _) fun a hk => ?_
      refine lno hk rfl rfl rfl fun a hk => ?_
      refine lno hk rfl rfl rfl fun a hk => ?_
      refine lno hk rfl rfl rfl fun a hk => ?_
      refine ls hk rfl rfl rfl (e_pickT hk rfl rfl _) fun a hk => ?_
      refine lnil (hK8 _ _ ?_)
      refine cdT hk rfl ?_
      refine wp_seq_k fun K11 hK11 => ?_
      refine wp_region_lit ?_
      refine ls hk rfl rfl rfl (e_assign hk rfl _) fun a hk => ?_
      refine lnil (hK11 _ _ ?_)
      refine wp_ret ?_
      simp only [then_ret]
      exact ret1 hk rfl rfl ⟨by rw [hz], hB⟩

set_option maxRecDepth 4000 in
set_option maxHeartbeats 1000000 in
theorem c56 (rt : List UInt8) (hrt : rt.length = 16) (N₀ f₀ : Int) (l xs : List (List UInt8)) (hL : Lv xs) (adl ad : Option Addr) (cl c : Nat) (w0 : World) (hRl : Rdg w0 adl l.length cl l) (hR : Rs w0 ad xs.length c xs) (hG : GR w0) (hN64 : is64 N₀) (hf64 : is64 f₀) :
    Calls Tryd.prog 56 #[D rt, .agg #[I N₀, I f₀, .slice adl l.length cl], .slice ad xs.length c] w0 fun e w' => e = .returned (I (chkR rt N₀ f₀ l xs)) ∧ Ext w0 w' := by
  have hL1 := hL.1
  obtain ⟨hN1, hN2⟩ := hN64
  obtain ⟨hf1, hf2⟩ := hf64
  rcases (by omega : xs.length = 0 ∨ (xs.length ≠ 0 ∧ N₀ < 1) ∨ (xs.length ≠ 0 ∧ ¬ N₀ < 1 ∧ N₀ > 1073741824) ∨ (xs.length ≠ 0 ∧ ¬ N₀ < 1 ∧ ¬ N₀ > 1073741824 ∧ f₀ < 0) ∨ (xs.length ≠ 0 ∧ ¬ N₀ < 1 ∧ ¬ N₀ > 1073741824 ∧ ¬ f₀ < 0 ∧ f₀ > N₀ - xs.length) ∨ (xs.length ≠ 0 ∧ ¬ N₀ < 1 ∧ ¬ N₀ > 1073741824 ∧ ¬ f₀ < 0 ∧ ¬ f₀ > N₀ - xs.length)) with hc | hc | hc | hc | hc | hc
  · have hres : chkR rt N₀ f₀ l xs = 1 := by unfold chkR; rw [if_pos (by omega)]
    refine start 63 Tryd.func56 rfl rfl rfl fun a hk => ?_
    have hB : Ext w0 w0 := Below.refl _ _
    refine wp_seq_k fun K1 hK1 => ?_
    refine wp_region_lit ?_
    refine la hk rfl (a_box hk rfl rfl fun a w b3 hk G => ?_)
    have hg_b3 : w0.heap.size ≤ b3 := Nat.le_trans hB.size G.ge
    have hB := ext_trans hB G.ext
    have h_b3 := G.at_
    clear G
    refine la hk rfl (a_box hk rfl rfl fun a w b4 hk G => ?_)
    have n_b3_b4 : b3 ≠ b4 := G.ne h_b3
    have hg_b4 : w0.heap.size ≤ b4 := Nat.le_trans hB.size G.ge
    have h_b3 := ext_at G.ext h_b3
    have hB := ext_trans hB G.ext
    have h_b4 := G.at_
    clear G
    refine ls hk rfl rfl rfl (e_assign hk rfl _) fun a hk => ?_
    refine lnil (hK1 _ _ ?_)
    refine wp_seq_k fun K2 hK2 => ?_
    refine wp_seq_k fun K3 hK3 => ?_
    refine wp_region_lit ?_
    refine ls hk rfl rfl rfl (e_move hk rfl _) fun a hk => ?_
    refine ls hk rfl rfl rfl (e_lenS hk rfl Tryd.underlying27 _) fun a hk => ?_
    refine ls hk rfl rfl rfl (e_eql (b := true) hk rfl rfl (decide_eq_true (by omega)) _) fun a hk => ?_
    refine ls hk rfl rfl rfl (e_move hk rfl _) fun a hk => ?_
    refine lno hk rfl rfl rfl fun a hk => ?_
    refine lno hk rfl rfl rfl fun a hk => ?_
    refine lno hk rfl rfl rfl fun a hk => ?_
    refine ls hk rfl rfl rfl (e_pickT hk rfl rfl _) fun a hk => ?_
    refine ls hk rfl rfl rfl (e_move hk rfl _) fun a hk => ?_
    refine lno hk rfl rfl rfl fun a hk => ?_
    refine lno hk rfl rfl rfl fun a hk => ?_
    refine lno hk rfl rfl rfl fun a hk => ?_
    refine ls hk rfl rfl rfl (e_pickT hk rfl rfl _) fun a hk => ?_
    refine ls hk rfl rfl rfl (e_move hk rfl _) fun a hk => ?_
    refine lno hk rfl rfl rfl fun a hk => ?_
    refine lno hk rfl rfl rfl fun a hk => ?_
    refine lno hk rfl rfl rfl fun a hk => ?_
    refine ls hk rfl rfl rfl (e_pickT hk rfl rfl _) fun a hk => ?_
    refine ls hk rfl rfl rfl (e_move hk rfl _) fun a hk => ?_
    refine lno hk rfl rfl rfl fun a hk => ?_
    refine lno hk rfl rfl rfl fun a hk => ?_
    refine lno hk rfl rfl rfl fun a hk => ?_
    refine lno hk rfl rfl rfl fun a hk => ?_
    refine lno hk rfl rfl rfl fun a hk => ?_
    refine lno hk rfl rfl rfl fun a hk => ?_
    refine lno hk rfl rfl rfl fun a hk => ?_
    refine lno hk rfl rfl rfl fun a hk => ?_
    refine ls hk rfl rfl rfl (e_pickT hk rfl rfl _) fun a hk => ?_
    refine lnil (hK3 _ _ ?_)
    refine cdT hk rfl ?_
    refine wp_seq_k fun K4 hK4 => ?_
    refine wp_region_lit ?_
    refine ls hk rfl rfl rfl (e_assign hk rfl _) fun a hk => ?_
    refine lnil (hK4 _ _ ?_)
    refine wp_ret ?_
    simp only [then_ret]
    exact ret1 hk rfl rfl ⟨by rw [hres], hB⟩
  · have hres : chkR rt N₀ f₀ l xs = 1 := by unfold chkR; rw [if_pos (by omega)]
    refine start 63 Tryd.func56 rfl rfl rfl fun a hk => ?_
    have hB : Ext w0 w0 := Below.refl _ _
    refine wp_seq_k fun K1 hK1 => ?_
    refine wp_region_lit ?_
    refine la hk rfl (a_box hk rfl rfl fun a w b3 hk G => ?_)
    have hg_b3 : w0.heap.size ≤ b3 := Nat.le_trans hB.size G.ge
    have hB := ext_trans hB G.ext
    have h_b3 := G.at_
    clear G
    refine la hk rfl (a_box hk rfl rfl fun a w b4 hk G => ?_)
    have n_b3_b4 : b3 ≠ b4 := G.ne h_b3
    have hg_b4 : w0.heap.size ≤ b4 := Nat.le_trans hB.size G.ge
    have h_b3 := ext_at G.ext h_b3
    have hB := ext_trans hB G.ext
    have h_b4 := G.at_
    clear G
    refine ls hk rfl rfl rfl (e_assign hk rfl _) fun a hk => ?_
    refine lnil (hK1 _ _ ?_)
    refine wp_seq_k fun K2 hK2 => ?_
    refine wp_seq_k fun K3 hK3 => ?_
    refine wp_region_lit ?_
    refine ls hk rfl rfl rfl (e_move hk rfl _) fun a hk => ?_
    refine ls hk rfl rfl rfl (e_lenS hk rfl Tryd.underlying27 _) fun a hk => ?_
    refine ls hk rfl rfl rfl (e_eql (b := false) hk rfl rfl (decide_eq_false (by omega)) _) fun a hk => ?_
    refine ls hk rfl rfl rfl (e_move hk rfl _) fun a hk => ?_
    refine ls hk rfl rfl rfl (e_field (off := 0) hk rfl Tryd.underlying74 rfl rfl nz3 _) fun a hk => ?_
    refine ls hk rfl rfl rfl (r_load hk rfl Tryd.underlying3 rfl h_b4 rfl) fun a hk => ?_
    refine ls hk rfl rfl rfl (e_lss (b := true) hk rfl rfl (decide_eq_true (by omega)) _) fun a hk => ?_
    refine ls hk rfl rfl rfl (e_pickF hk rfl rfl _) fun a hk => ?_
    refine ls hk rfl rfl rfl (e_move hk rfl _) fun a hk => ?_
    refine lno hk rfl rfl rfl fun a hk => ?_
    refine lno hk rfl rfl rfl fun a hk => ?_
    refine lno hk rfl rfl rfl fun a hk => ?_
    refine ls hk rfl rfl rfl (e_pickT hk rfl rfl _) fun a hk => ?_
    refine ls hk rfl rfl rfl (e_move hk rfl _) fun a hk => ?_
    refine lno hk rfl rfl rfl fun a hk => ?_
    refine lno hk rfl rfl rfl fun a hk => ?_
    refine lno hk rfl rfl rfl fun a hk => ?_
    refine ls hk rfl rfl rfl (e_pickT hk rfl rfl _) fun a hk => ?_
    refine ls hk rfl rfl rfl (e_move hk rfl _) fun a hk => ?_
    refine lno hk rfl rfl rfl fun a hk => ?_
    refine lno hk rfl rfl rfl fun a hk => ?_
    refine lno hk rfl rfl rfl fun a hk => ?_
    refine lno hk rfl rfl rfl fun a hk => ?_
    refine lno hk rfl rfl rfl fun a hk => ?_
    refine lno hk rfl rfl rfl fun a hk => ?_
    refine lno hk rfl rfl rfl fun a hk => ?_
    refine lno hk rfl rfl rfl fun a hk => ?_
    refine ls hk rfl rfl rfl (e_pickT hk rfl rfl _) fun a hk => ?_
    refine lnil (hK3 _ _ ?_)
    refine cdT hk rfl ?_
    refine wp_seq_k fun K4 hK4 => ?_
    refine wp_region_lit ?_
    refine ls hk rfl rfl rfl (e_assign hk rfl _) fun a hk => ?_
    refine lnil (hK4 _ _ ?_)
    refine wp_ret ?_
    simp only [then_ret]
    exact ret1 hk rfl rfl ⟨by rw [hres], hB⟩
  · have hres : chkR rt N₀ f₀ l xs = 1 := by unfold chkR; rw [if_pos (by omega)]
    refine start 63 Tryd.func56 rfl rfl rfl fun a hk => ?_
    have hB : Ext w0 w0 := Below.refl _ _
    refine wp_seq_k fun K1 hK1 => ?_
    refine wp_region_lit ?_
    refine la hk rfl (a_box hk rfl rfl fun a w b3 hk G => ?_)
    have hg_b3 : w0.heap.size ≤ b3 := Nat.le_trans hB.size G.ge
    have hB := ext_trans hB G.ext
    have h_b3 := G.at_
    clear G
    refine la hk rfl (a_box hk rfl rfl fun a w b4 hk G => ?_)
    have n_b3_b4 : b3 ≠ b4 := G.ne h_b3
    have hg_b4 : w0.heap.size ≤ b4 := Nat.le_trans hB.size G.ge
    have h_b3 := ext_at G.ext h_b3
    have hB := ext_trans hB G.ext
    have h_b4 := G.at_
    clear G
    refine ls hk rfl rfl rfl (e_assign hk rfl _) fun a hk => ?_
    refine lnil (hK1 _ _ ?_)
    refine wp_seq_k fun K2 hK2 => ?_
    refine wp_seq_k fun K3 hK3 => ?_
    refine wp_region_lit ?_
    refine ls hk rfl rfl rfl (e_move hk rfl _) fun a hk => ?_
    refine ls hk rfl rfl rfl (e_lenS hk rfl Tryd.underlying27 _) fun a hk => ?_
    refine ls hk rfl rfl rfl (e_eql (b := false) hk rfl rfl (decide_eq_false (by omega)) _) fun a hk => ?_
    refine ls hk rfl rfl rfl (e_move hk rfl _) fun a hk => ?_
    refine ls hk rfl rfl rfl (e_field (off := 0) hk rfl Tryd.underlying74 rfl rfl nz3 _) fun a hk => ?_
    refine ls hk rfl rfl rfl (r_load hk rfl Tryd.underlying3 rfl h_b4 rfl) fun a hk => ?_
    refine ls hk rfl rfl rfl (e_lss (b := false) hk rfl rfl (decide_eq_false (by omega)) _) fun a hk => ?_
    refine ls hk rfl rfl rfl (e_pickF hk rfl rfl _) fun a hk => ?_
    refine ls hk rfl rfl rfl (e_move hk rfl _) fun a hk => ?_
    refine ls hk rfl rfl rfl (e_field (off := 0) hk rfl Tryd.underlying74 rfl rfl nz3 _) fun a hk => ?_
    refine ls hk rfl rfl rfl (r_load hk rfl Tryd.underlying3 rfl h_b4 rfl) fun a hk => ?_
    refine ls hk rfl rfl rfl (e_gtr (b := true) hk rfl rfl (decide_eq_true (by omega)) _) fun a hk => ?_
    refine ls hk rfl rfl rfl (e_pickF hk rfl rfl _) fun a hk => ?_
    refine ls hk rfl rfl rfl (e_move hk rfl _) fun a hk => ?_
    refine lno hk rfl rfl rfl fun a hk => ?_
    refine lno hk rfl rfl rfl fun a hk => ?_
    refine lno hk rfl rfl rfl fun a hk => ?_
    refine ls hk rfl rfl rfl (e_pickT hk rfl rfl _) fun a hk => ?_
    refine ls hk rfl rfl rfl (e_move hk rfl _) fun a hk => ?_
    refine lno hk rfl rfl rfl fun a hk => ?_
    refine lno hk rfl rfl rfl fun a hk => ?_
    refine lno hk rfl rfl rfl fun a hk => ?_
    refine lno hk rfl rfl rfl fun a hk => ?_
    refine lno hk rfl rfl rfl fun a hk => ?_
    refine lno hk rfl rfl rfl fun a hk => ?_
    refine lno hk rfl rfl rfl fun a hk => ?_
    refine lno hk rfl rfl rfl fun a hk => ?_
    refine ls hk rfl rfl rfl (e_pickT hk rfl rfl _) fun a hk => ?_
    refine lnil (hK3 _ _ ?_)
    refine cdT hk rfl ?_
    refine wp_seq_k fun K4 hK4 => ?_
    refine wp_region_lit ?_
    refine ls hk rfl rfl rfl (e_assign hk rfl _) fun a hk => ?_
    refine lnil (hK4 _ _ ?_)
    refine wp_ret ?_
    simp only [then_ret]
    exact ret1 hk rfl rfl ⟨by rw [hres], hB⟩
  · have hres : chkR rt N₀ f₀ l xs = 1 := by unfold chkR; rw [if_pos (by omega)]
    refine start 63 Tryd.func56 rfl rfl rfl fun a hk => ?_
    have hB : Ext w0 w0 := Below.refl _ _
    refine wp_seq_k fun K1 hK1 => ?_
    refine wp_region_lit ?_
    refine la hk rfl (a_box hk rfl rfl fun a w b3 hk G => ?_)
    have hg_b3 : w0.heap.size ≤ b3 := Nat.le_trans hB.size G.ge
    have hB := ext_trans hB G.ext
    have h_b3 := G.at_
    clear G
    refine la hk rfl (a_box hk rfl rfl fun a w b4 hk G => ?_)
    have n_b3_b4 : b3 ≠ b4 := G.ne h_b3
    have hg_b4 : w0.heap.size ≤ b4 := Nat.le_trans hB.size G.ge
    have h_b3 := ext_at G.ext h_b3
    have hB := ext_trans hB G.ext
    have h_b4 := G.at_
    clear G
    refine ls hk rfl rfl rfl (e_assign hk rfl _) fun a hk => ?_
    refine lnil (hK1 _ _ ?_)
    refine wp_seq_k fun K2 hK2 => ?_
    refine wp_seq_k fun K3 hK3 => ?_
    refine wp_region_lit ?_
    refine ls hk rfl rfl rfl (e_move hk rfl _) fun a hk => ?_
    refine ls hk rfl rfl rfl (e_lenS hk rfl Tryd.underlying27 _) fun a hk => ?_
    refine ls hk rfl rfl rfl (e_eql (b := false) hk rfl rfl (decide_eq_false (by omega)) _) fun a hk => ?_
    refine ls hk rfl rfl rfl (e_move hk rfl _) fun a hk => ?_
    refine ls hk rfl rfl rfl (e_field (off := 0) hk rfl Tryd.underlying74 rfl rfl nz3 _) fun a hk => ?_
    refine ls hk rfl rfl rfl (r_load hk rfl Tryd.underlying3 rfl h_b4 rfl) fun a hk => ?_
    refine ls hk rfl rfl rfl (e_lss (b := false) hk rfl rfl (decide_eq_false (by omega)) _) fun a hk => ?_
    refine ls hk rfl rfl rfl (e_pickF hk rfl rfl _) fun a hk => ?_
    refine ls hk rfl rfl rfl (e_move hk rfl _) fun a hk => ?_
    refine ls hk rfl rfl rfl (e_field (off := 0) hk rfl Tryd.underlying74 rfl rfl nz3 _) fun a hk => ?_
    refine ls hk rfl rfl rfl (r_load hk rfl Tryd.underlying3 rfl h_b4 rfl) fun a hk => ?_
    refine ls hk rfl rfl rfl (e_gtr (b := false) hk rfl rfl (decide_eq_false (by omega)) _) fun a hk => ?_
    refine ls hk rfl rfl rfl (e_pickF hk rfl rfl _) fun a hk => ?_
    refine ls hk rfl rfl rfl (e_move hk rfl _) fun a hk => ?_
    refine ls hk rfl rfl rfl (e_field (off := 1) hk rfl Tryd.underlying74 rfl rfl nz3 _) fun a hk => ?_
    refine ls hk rfl rfl rfl (r_load hk rfl Tryd.underlying3 rfl h_b4 rfl) fun a hk => ?_
    refine ls hk rfl rfl rfl (e_lss (b := true) hk rfl rfl (decide_eq_true (by omega)) _) fun a hk => ?_
    refine ls hk rfl rfl rfl (e_pickF hk rfl rfl _) fun a hk => ?_
    refine ls hk rfl rfl rfl (e_move hk rfl _) fun a hk => ?_
    refine lno hk rfl rfl rfl fun a hk => ?_
    refine lno hk rfl rfl rfl fun a hk => ?_
    refine lno hk rfl rfl rfl fun a hk => ?_
    refine lno hk rfl rfl rfl fun a hk => ?_
    refine lno hk rfl rfl rfl fun a hk => ?_
    refine lno hk rfl rfl rfl fun a hk => ?_
    refine lno hk rfl rfl rfl fun a hk => ?_
    refine lno hk rfl rfl rfl fun a hk => ?_
    refine ls hk rfl rfl rfl (e_pickT hk rfl rfl _) fun a hk => ?_
    refine lnil (hK3 _ _ ?_)
    refine cdT hk rfl ?_
    refine wp_seq_k fun K4 hK4 => ?_
    refine wp_region_lit ?_
    refine ls hk rfl rfl rfl (e_assign hk rfl _) fun a hk => ?_
    refine lnil (hK4 _ _ ?_)
    refine wp_ret ?_
    simp only [then_ret]
    exact ret1 hk rfl rfl ⟨by rw [hres], hB⟩
  · have hres : chkR rt N₀ f₀ l xs = 1 := by unfold chkR; rw [if_pos (by omega)]
    refine start 63 Tryd.func56 rfl rfl rfl fun a hk => ?_
    have hB : Ext w0 w0 := Below.refl _ _
    refine wp_seq_k fun K1 hK1 => ?_
    refine wp_region_lit ?_
    refine la hk rfl (a_box hk rfl rfl fun a w b3 hk G => ?_)
    have hg_b3 : w0.heap.size ≤ b3 := Nat.le_trans hB.size G.ge
    have hB := ext_trans hB G.ext
    have h_b3 := G.at_
    clear G
    refine la hk rfl (a_box hk rfl rfl fun a w b4 hk G => ?_)
    have n_b3_b4 : b3 ≠ b4 := G.ne h_b3
    have hg_b4 : w0.heap.size ≤ b4 := Nat.le_trans hB.size G.ge
    have h_b3 := ext_at G.ext h_b3
    have hB := ext_trans hB G.ext
    have h_b4 := G.at_
    clear G
    refine ls hk rfl rfl rfl (e_assign hk rfl _) fun a hk => ?_
    refine lnil (hK1 _ _ ?_)
    refine wp_seq_k fun K2 hK2 => ?_
    refine wp_seq_k fun K3 hK3 => ?_
    refine wp_region_lit ?_
    refine ls hk rfl rfl rfl (e_move hk rfl _) fun a hk => ?_
    refine ls hk rfl rfl rfl (e_lenS hk rfl Tryd.underlying27 _) fun a hk => ?_
    refine ls hk rfl rfl rfl (e_eql (b := false) hk rfl rfl (decide_eq_false (by omega)) _) fun a hk => ?_
    refine ls hk rfl rfl rfl (e_move hk rfl _) fun a hk => ?_
    refine ls hk rfl rfl rfl (e_field (off := 0) hk rfl Tryd.underlying74 rfl rfl nz3 _) fun a hk => ?_
    refine ls hk rfl rfl rfl (r_load hk rfl Tryd.underlying3 rfl h_b4 rfl) fun a hk => ?_
    refine ls hk rfl rfl rfl (e_lss (b := false) hk rfl rfl (decide_eq_false (by omega)) _) fun a hk => ?_
    refine ls hk rfl rfl rfl (e_pickF hk rfl rfl _) fun a hk => ?_
    refine ls hk rfl rfl rfl (e_move hk rfl _) fun a hk => ?_
    refine ls hk rfl rfl rfl (e_field (off := 0) hk rfl Tryd.underlying74 rfl rfl nz3 _) fun a hk => ?_
    refine ls hk rfl rfl rfl (r_load hk rfl Tryd.underlying3 rfl h_b4 rfl) fun a hk => ?_
    refine ls hk rfl rfl rfl (e_gtr (b := false) hk rfl rfl (decide_eq_false (by omega)) _) fun a hk => ?_
    refine ls hk rfl rfl rfl (e_pickF hk rfl rfl _) fun a hk => ?_
    refine ls hk rfl rfl rfl (e_move hk rfl _) fun a hk => ?_
    refine ls hk rfl rfl rfl (e_field (off := 1) hk rfl Tryd.underlying74 rfl rfl nz3 _) fun a hk => ?_
    refine ls hk rfl rfl rfl (r_load hk rfl Tryd.underlying3 rfl h_b4 rfl) fun a hk => ?_
    refine ls hk rfl rfl rfl (e_lss (b := false) hk rfl rfl (decide_eq_false (by omega)) _) fun a hk => ?_
    refine ls hk rfl rfl rfl (e_pickF hk rfl rfl _) fun a hk => ?_
    refine ls hk rfl rfl rfl (e_move hk rfl _) fun a hk => ?_
    refine ls hk rfl rfl rfl (e_field (off := 1) hk rfl Tryd.underlying74 rfl rfl nz3 _) fun a hk => ?_
    refine ls hk rfl rfl rfl (r_load hk rfl Tryd.underlying3 rfl h_b4 rfl) fun a hk => ?_
    refine ls hk rfl rfl rfl (e_field (off := 0) hk rfl Tryd.underlying74 rfl rfl nz3 _) fun a hk => ?_
    refine ls hk rfl rfl rfl (r_load hk rfl Tryd.underlying3 rfl h_b4 rfl) fun a hk => ?_
    refine ls hk rfl rfl rfl (e_move hk rfl _) fun a hk => ?_
    refine ls hk rfl rfl rfl (e_lenS hk rfl Tryd.underlying27 _) fun a hk => ?_
    refine ls hk rfl rfl rfl (e_sub hk rfl rfl (i64 (by omega) (by omega)) _) fun a hk => ?_
    refine ls hk rfl rfl rfl (e_gtr (b := true) hk rfl rfl (decide_eq_true (by omega)) _) fun a hk => ?_
    refine ls hk rfl rfl rfl (e_pickF hk rfl rfl _) fun a hk => ?_
    refine lnil (hK3 _ _ ?_)
    refine cdT hk rfl ?_
    refine wp_seq_k fun K4 hK4 => ?_
    refine wp_region_lit ?_
    refine ls hk rfl rfl rfl (e_assign hk rfl _) fun a hk => ?_
    refine lnil (hK4 _ _ ?_)
    refine wp_ret ?_
    simp only [then_ret]
    exact ret1 hk rfl rfl ⟨by rw [hres], hB⟩
  · obtain ⟨f, rfl⟩ : ∃ k : Nat, f₀ = k := ⟨f₀.toNat, by omega⟩
    obtain ⟨N, rfl⟩ : ∃ k : Nat, N₀ = k := ⟨N₀.toNat, by omega⟩
    have hres := chkR_ok (rt := rt) (l := l) (N := N) (f := f) (xs := xs) (by omega)
    have hcq := chk_count (outI f (f + xs.length)) (fun a => leafS (xs.getD (a - f) [])) l 0 N (by omega) 0
    have hlr := len_restS f (f + xs.length) 0 N (by omega)
    have hx16 := chk_len (outI f (f + xs.length)) (fun a => leafS (xs.getD (a - f) [])) (fun _ => length_leafS _) l hRl.2 0 N (by omega) 0
    refine start 63 Tryd.func56 rfl rfl rfl fun a hk => ?_
    have hB : Ext w0 w0 := Below.refl _ _
    refine wp_seq_k fun K1 hK1 => ?_
    refine wp_region_lit ?_
    refine la hk rfl (a_box hk rfl rfl fun a w b3 hk G => ?_)
    have hg_b3 : w0.heap.size ≤ b3 := Nat.le_trans hB.size G.ge
    have hB := ext_trans hB G.ext
    have h_b3 := G.at_
    clear G
    refine la hk rfl (a_box hk rfl rfl fun a w b4 hk G => ?_)
    have n_b3_b4 : b3 ≠ b4 := G.ne h_b3
    have hg_b4 : w0.heap.size ≤ b4 := Nat.le_trans hB.size G.ge
    have h_b3 := ext_at G.ext h_b3
    have hB := ext_trans hB G.ext
    have h_b4 := G.at_
    clear G
    refine ls hk rfl rfl rfl (e_assign hk rfl _) fun a hk => ?_
    refine lnil (hK1 _ _ ?_)
    refine wp_seq_k fun K2 hK2 => ?_
    refine wp_seq_k fun K3 hK3 => ?_
    refine wp_region_lit ?_
    refine ls hk rfl rfl rfl (e_move hk rfl _) fun a hk => ?_
    refine ls hk rfl rfl rfl (e_lenS hk rfl Tryd.underlying27 _) fun a hk => ?_
    refine ls hk rfl rfl rfl (e_eql (b := false) hk rfl rfl (decide_eq_false (by omega)) _) fun a hk => ?_
    refine ls hk rfl rfl rfl (e_move hk rfl _) fun a hk => ?_
    refine ls hk rfl rfl rfl (e_field (off := 0) hk rfl Tryd.underlying74 rfl rfl nz3 _) fun a hk => ?_
    refine ls hk rfl rfl rfl (r_load hk rfl Tryd.underlying3 rfl h_b4 rfl) fun a hk => ?_
    refine ls hk rfl rfl rfl (e_lss (b := false) hk rfl rfl (decide_eq_false (by omega)) _) fun a hk => ?_
    refine ls hk rfl rfl rfl (e_pickF hk rfl rfl _) fun a hk => ?_
    refine ls hk rfl rfl rfl (e_move hk rfl _) fun a hk => ?_
    refine ls hk rfl rfl rfl (e_field (off := 0) hk rfl Tryd.underlying74 rfl rfl nz3 _) fun a hk => ?_
    refine ls hk rfl rfl rfl (r_load hk rfl Tryd.underlying3 rfl h_b4 rfl) fun a hk => ?_
    refine ls hk rfl rfl rfl (e_gtr (b := false) hk rfl rfl (decide_eq_false (by omega)) _) fun a hk => ?_
    refine ls hk rfl rfl rfl (e_pickF hk rfl rfl _) fun a hk => ?_
    refine ls hk rfl rfl rfl (e_move hk rfl _) fun a hk => ?_
    refine ls hk rfl rfl rfl (e_field (off := 1) hk rfl Tryd.underlying74 rfl rfl nz3 _) fun a hk => ?_
    refine ls hk rfl rfl rfl (r_load hk rfl Tryd.underlying3 rfl h_b4 rfl) fun a hk => ?_
    refine ls hk rfl rfl rfl (e_lss (b := false) hk rfl rfl (decide_eq_false (by omega)) _) fun a hk => ?_
    refine ls hk rfl rfl rfl (e_pickF hk rfl rfl _) fun a hk => ?_
    refine ls hk rfl rfl rfl (e_move hk rfl _) fun a hk => ?_
    refine ls hk rfl rfl rfl (e_field (off := 1) hk rfl Tryd.underlying74 rfl rfl nz3 _) fun a hk => ?_
    refine ls hk rfl rfl rfl (r_load hk rfl Tryd.underlying3 rfl h_b4 rfl) fun a hk => ?_
    refine ls hk rfl rfl rfl (e_field (off := 0) hk rfl Tryd.underlying74 rfl rfl nz3 _) fun a hk => ?_
    refine ls hk rfl rfl rfl (r_load hk rfl Tryd.underlying3 rfl h_b4 rfl) fun a hk => ?_
    refine ls hk rfl rfl rfl (e_move hk rfl _) fun a hk => ?_
    refine ls hk rfl rfl rfl (e_lenS hk rfl Tryd.underlying27 _) fun a hk => ?_
    refine ls hk rfl rfl rfl (e_sub hk rfl rfl (i64 (by omega) (by omega)) _) fun a hk => ?_
    refine ls hk rfl rfl rfl (e_gtr (b := false) hk rfl rfl (decide_eq_false (by omega)) _) fun a hk => ?_
    refine ls hk rfl rfl rfl (e_pickF hk rfl rfl _) fun a hk => ?_
    refine lnil (hK3 _ _ ?_)
    refine cdF hk rfl ?_
    refine wp_skip (hK2 _ _ ?_)
    refine wp_seq_k fun K4 hK4 => ?_
    refine wp_region_lit ?_
    refine ls hk rfl rfl rfl (e_field (off := 0) hk rfl Tryd.underlying74 rfl rfl nz3 _) fun a hk => ?_
    refine ls hk rfl rfl rfl (r_load hk rfl Tryd.underlying3 rfl h_b4 rfl) fun a hk => ?_
    refine ls hk rfl rfl rfl (e_field (off := 1) hk rfl Tryd.underlying74 rfl rfl nz3 _) fun a hk => ?_
    refine ls hk rfl rfl rfl (r_load hk rfl Tryd.underlying3 rfl h_b4 rfl) fun a hk => ?_
    refine ls hk rfl rfl rfl (e_field (off := 1) hk rfl Tryd.underlying74 rfl rfl nz3 _) fun a hk => ?_
    refine ls hk rfl rfl rfl (r_load hk rfl Tryd.underlying3 rfl h_b4 rfl) fun a hk => ?_
    refine ls hk rfl rfl rfl (e_move hk rfl _) fun a hk => ?_
    refine ls hk rfl rfl rfl (e_lenS hk rfl Tryd.underlying27 _) fun a hk => ?_
    refine ls hk rfl rfl rfl (e_add (q := ((f + xs.length : Nat) : Int)) hk rfl rfl (by rw [i64 (by omega) (by omega)]; omega) _) fun a hk => ?_
    refine la hk rfl (a_call hk rfl rfl (c_fn hk rfl ok101) (c101 f (f + xs.length) _ 0 N _ rfl (by omega) (by omega)) ?_)
    rintro e w ⟨v1, rfl, hown1, hE⟩
    refine ⟨_, rfl, fun a hk => ?_⟩
    have h_b3 := ext_at hE h_b3
    have h_b4 := ext_at hE h_b4
    have hB := ext_trans hB hE
    obtain ⟨ad1, c1, rfl, _, hR1⟩ := Rd.of_own hown1
    clear hE
    refine ls hk rfl rfl rfl (e_assign hk rfl _) fun a hk => ?_
    refine lnil (hK4 _ _ ?_)
    refine wp_seq_k fun K5 hK5 => ?_
    refine wp_seq_k fun K6 hK6 => ?_
    refine wp_region_lit ?_
    refine ls hk rfl rfl rfl (e_move hk rfl _) fun a hk => ?_
    refine ls hk rfl rfl rfl (e_lenS hk rfl Tryd.underlying67 _) fun a hk => ?_
    refine ls hk rfl rfl rfl (e_field (off := 2) hk rfl Tryd.underlying74 rfl rfl nz69 _) fun a hk => ?_
    refine ls hk rfl rfl rfl (r_load hk rfl Tryd.underlying69 rfl h_b4 rfl) fun a hk => ?_
    refine ls hk rfl rfl rfl (e_lenS hk rfl Tryd.underlying69 _) fun a hk => ?_
    refine ls hk rfl rfl rfl (e_neq hk rfl rfl rfl _) fun a hk => ?_
    refine lnil (hK6 _ _ ?_)
    refine cdB hk rfl (fun hb => ?_) (fun hb => ?_)
    · have hcl : ¬ (restS f (f + xs.length) 0 N).length = l.length := by intro h; rw [h] at hb; simp at hb
      have hz : chkR rt N f l xs = 15 := by rw [hres, if_neg (fun h => hcl (by have h1 := h.1; rw [hcq, Nat.zero_add] at h1; exact h1))]
      refine wp_seq_k fun K7 hK7 => ?_
      refine wp_region_lit ?_
      refine ls hk rfl rfl rfl (e_assign hk rfl _) fun a hk => ?_
      refine lnil (hK7 _ _ ?_)
      refine wp_ret ?_
      simp only [then_ret]
      exact ret1 hk rfl rfl ⟨by rw [hz], hB⟩
    · have hcl : (restS f (f + xs.length) 0 N).length = l.length := by
        have h : ((restS f (f + xs.length) 0 N).length : Int) = (l.length : Int) := by simpa using hb
        omega
      refine wp_skip (hK5 _ _ ?_)
      refine wp_seq_k fun K8 hK8 => ?_
      refine wp_seq_k fun K9 hK9 => ?_
      refine wp_region_ok (fun w => w.heap[b3]? = some (.cells (rt.map B).toArray 44 (0, 0))) [0, 1, 0, 0, 1, 0, 0, 1, 4, 3, 0] mixed ?_
      have hB := hB.drew
      have h_b3 := ext_at (ext_drew w) h_b3
      have h_b4 := ext_at (ext_drew w) h_b4
      have hR1 := hR1.ext (ext_drew w)
      have hS : (fun w => w.heap[b3]? = some (.cells (rt.map B).toArray 44 (0, 0))) w.drew := ext_at (ext_drew w) h_b3
      refine d0 0 hk rfl (by kernel_rfl) rfl rfl rfl rfl (fun _ => e_field (off := 0) hk rfl Tryd.underlying74 rfl rfl nz3 _) fun a hk => ?_
      refine d1 1 hk rfl (by kernel_rfl) rfl rfl rfl rfl (r_load hk rfl Tryd.underlying3 rfl h_b4 rfl) fun a hk => ?_
      refine d0 2 hk rfl (by kernel_rfl) rfl rfl rfl rfl (fun _ => e_move hk rfl _) fun a hk => ?_
      refine d0 3 hk rfl (by kernel_rfl) rfl rfl rfl rfl (fun _ => e_field (off := 2) hk rfl Tryd.underlying74 rfl rfl nz69 _) fun a hk => ?_
      refine d1 4 hk rfl (by kernel_rfl) rfl rfl rfl rfl (r_load hk rfl Tryd.underlying69 rfl h_b4 rfl) fun a hk => ?_
      refine d0 5 hk rfl (by kernel_rfl) rfl rfl rfl rfl (fun _ => e_move hk rfl _) fun a hk => ?_
      refine d0 6 hk rfl (by kernel_rfl) rfl rfl rfl rfl (fun _ => e_field (off := 1) hk rfl Tryd.underlying74 rfl rfl nz3 _) fun a hk => ?_
      refine d1 7 hk rfl (by kernel_rfl) rfl rfl rfl rfl (r_load hk rfl Tryd.underlying3 rfl h_b4 rfl) fun a hk => ?_
      refine da4 8 hk rfl (by kernel_rfl) rfl rfl hS (a_call hk rfl rfl (c_fn hk rfl ok111) (c111 (outI f (f + xs.length)) (restS f (f + xs.length) 0 N) l xs hL f (fun a h => by unfold outI at h; simp at h; omega) hcl (by omega) ad1 adl ad c1 cl c _ 0 N [] [] _ rfl (by omega) (by omega) At.all hR1 (hRl.ext hB) (Rd.ext hR hB) (hG.ext hB)) ?_)
      rintro e w ⟨rfl, hE⟩
      refine ⟨_, rfl, fun a hk => ⟨ext_at hE hS, ?_⟩⟩
      have hS := ext_at hE hS
      have h_b3 := ext_at hE h_b3
      have h_b4 := ext_at hE h_b4
      have hR1 := hR1.ext hE
      have hB := ext_trans hB hE
      clear hE
      refine d3 9 hk rfl (by kernel_rfl) rfl rfl rfl rfl hS (fun w hS => r_ld44 hk rfl hS hrt) fun a hk => ?_
      refine d0 10 hk rfl (by kernel_rfl) rfl rfl rfl rfl (fun _ => e_neA (l := (chkS (outI f (f + xs.length)) (fun a => leafS (xs.getD (a - f) [])) l 0 N 0).1) (r := rt) hk rfl rfl Tryd.underlying44 Tryd.underlying5 sz5 hx16 hrt eg44 rfl _) fun a hk => ?_
      refine okFin (by kernel_rfl) (hK9 _ _ ?_)
      refine cdB hk rfl (fun hb => ?_) (fun hb => ?_)
      · have hne2 : ¬ (chkS (outI f (f + xs.length)) (fun a => leafS (xs.getD (a - f) [])) l 0 N 0).1 = rt := by simpa using hb
        have hz : chkR rt N f l xs = 15 := by rw [hres, if_neg (fun h => hne2 h.2)]
        refine wp_seq_k fun K10 hK10 => ?_
        refine wp_region_lit ?_
        refine ls hk rfl rfl rfl (e_assign hk rfl _) fun a hk => ?_
        refine lnil (hK10 _ _ ?_)
        refine wp_ret ?_
        simp only [then_ret]
        exact ret1 hk rfl rfl ⟨by rw [hz], hB⟩
      · have he2 : (chkS (outI f (f + xs.length)) (fun a => leafS (xs.getD (a - f) [])) l 0 N 0).1 = rt := by simpa using hb
        have hz : chkR rt N f l xs = 0 := by rw [hres, if_pos ⟨by rw [hcq, Nat.zero_add]; exact hcl, he2⟩]
        refine wp_skip (hK8 _ _ ?_)
        refine wp_seq_k fun K11 hK11 => ?_
        refine wp_region_lit ?_
        refine ls hk rfl rfl rfl (e_assign hk rfl _) fun a hk => ?_
        refine lnil (hK11 _ _ ?_)
        refine wp_ret ?_
        exact ret1 hk rfl rfl ⟨by rw [hz], hB⟩

end Go.Proofs.YtidfbboalbchiaaDoor
