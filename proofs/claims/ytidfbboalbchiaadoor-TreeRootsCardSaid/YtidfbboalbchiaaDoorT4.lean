/- Part 4 of the texts that a claim's last texts stand on: EqA, A10, A13, A14, A15, A17, A18. Conditions: those that each theorem names. -/
import Derived.Test.YtidfbboalbchiaaDoorT1
import Derived.Laws.StructEq
import Derived.Test.YtidfbboalbchiaaDoorT3
namespace Go.Proofs.YtidfbboalbchiaaDoor
open Go Go.RowKit
variable {P : Program}
theorem run_partB {e : TypeId} {inf : TypeInfo} (l : List UInt8) (i : Nat) (w : World) (he : P.underlying e = some (.int .u8)) (hq : P.info? e = some inf) (hs : inf.size = 1) (hi : i < l.length) : (part e (l.map B).toArray i).run P w = .ok (B l[i]) w := by
  have hagg : (isAgg e).run P w = .ok false w := isAgg_row he rfl
  simp [part, sizeOf, typeInfo, hq, hs, hi, hagg]
theorem eq_loop (d : Nat) (e : TypeId) (l r : List UInt8) (w : World) (he : P.underlying e = some (.int .u8)) (inf : TypeInfo) (hq : P.info? e = some inf) (hs : inf.size = 1) (hlr : l.length = r.length) : ∀ (m k : Nat), k + m = l.length →
    Sem.run P (forIn (List.range' k m) ((none, ()) : Option Bool × Unit) fun i __s => do
            let __do_lift ← part e (List.map B l).toArray i
            let __do_lift_1 ← part e (List.map B r).toArray i
            let __do_lift ← Op.equalIn (d + 1) e __do_lift __do_lift_1
            if __do_lift = false then pure (ForInStep.done (some false, ())) else pure (ForInStep.yield (none, ()))) w = .ok (if l.drop k = r.drop k then (none, ()) else (some false, ())) w := by
  intro m
  induction m with
  | zero =>
    intro k hk
    rw [List.drop_of_length_le (by omega), List.drop_of_length_le (by omega)]
    simp
  | succ m ih =>
    intro k hk
    rw [List.range'_succ, List.forIn_cons]
    have h1 : k < l.length := by omega
    have h2 : k < r.length := by omega
    have hd : (l.drop k = r.drop k) ↔ (l[k] = r[k] ∧ l.drop (k + 1) = r.drop (k + 1)) := by
      rw [List.drop_eq_getElem_cons h1, List.drop_eq_getElem_cons h2]
      exact List.cons.injEq _ _ _ _ ▸ Iff.rfl
    simp only [Sem.run_bind, run_partB l k w he hq hs h1, run_partB r k w he hq hs h2, Result.andThen_ok, run_equalIn_int w d e .u8 .u8 _ _ he]
    by_cases hc : l[k] = r[k]
    · have := ih (k + 1) (by omega)
      simp [hd, hc, this]
    · have hb : ((l[k].toNat : Int) == (r[k].toNat : Int)) = false := by
        rw [beq_eq_false_iff_ne]
        intro h
        exact hc (UInt8.toNat.inj (by omega))
      simp [hd, hb, hc]
theorem eqA (d : Nat) (t e : TypeId) (n : Nat) (l r : List UInt8) (w : World) (ht : P.underlying t = some (.array n e)) (he : P.underlying e = some (.int .u8)) (hs : (P.info? e).map (·.size) = some 1) (hl : l.length = n) (hr : r.length = n) :
    (Op.equalIn (d + 2) t (.agg (l.map B).toArray) (.agg (r.map B).toArray)).run P w = .ok (decide (l = r)) w := by
  cases hq : P.info? e with
  | none => simp [hq] at hs
  | some inf =>
  have hs' : inf.size = 1 := by simpa [hq] using hs
  rw [Op.equalIn]
  simp only [Sem.run_bind, run_underlying ht, Result.andThen_ok]
  simp [sizeOf, typeInfo, hq, hs']
  rw [eq_loop d e l r w he inf hq hs' (by omega) n 0 (by omega)]
  by_cases h : l = r
  · simp [h]
  · simp [h]
theorem e_eqA {dst : Option Tmp} {ty : TypeId} {pos : String} {af : Array Edge} {g : Option (Nat × Bool)} {N : Nat} {L : Fm} {a : Act} {x y : Operand} {t e t' : TypeId} {n : Nat} {l r : List UInt8} {b : Bool} (hk : Kn a N L) (hx : ov L x = some (.agg (l.map B).toArray)) (hy : ov L y = some (.agg (r.map B).toArray))
    (ht : P.underlying t = some (.array n e)) (he : P.underlying e = some (.int .u8)) (hs : (P.info? e).map (·.size) = some 1) (hl : l.length = n) (hr : r.length = n) (hg : P.eqGuardType P.depth t = false) (hb : decide (l = r) = b) (w : World) :
    Ev P ⟨dst, .binOp .eql t x y t', ty, pos, af, g⟩ a w (.bool b) := by
  have h := eqA (P := P) 9998 t e n l r w ht he hs hl hr
  subst hb
  simp only [Ev, execOp, hk.op hx, hk.op hy, Sem.run_bind, run_eqGuard_agg _ _ _ _ _ _ _ hg, Result.andThen_ok, run_eql_struct]
  rw [h]
  rfl
/-- A byte slice converted to its own type: a constant string's bytes. -/
theorem a_convB {ty : TypeId} {pos : String} {af : Array Edge} {g : Option (Nat × Bool)} {N dd : Nat} {L : Fm} {a : Act} {w : World} {x : Operand} {t e : TypeId} {b n c : Nat} {C : Array Value} {K : Act → World → Prop} (hk : Kn a N L) (hN : Nat.blt dd N = true) (hx : ov L x = some (.slice (some ⟨b, 0, none⟩) n c))
    (ht : P.underlying t = some (.slice e)) (he : P.underlying e = some (.int .u8)) (hb : w.heap[b]? = some (.cells C e (0, 0)))
    (hK : ∀ a' w', Kn a' N ((dd, .slice (some ⟨b, 0, none⟩) n c) :: L) → Wrote w w' b (.cells C e (C.size, C.size + 1)) → K a' w') : acts P ⟨some dd, .convert t t x, ty, pos, af, g⟩ K a w := by
  have hsh : w.shape? b = some (e, C.size) := by unfold World.shape?; rw [hb]
  refine act_v (v := .slice (some ⟨b, 0, none⟩) n c) (w' := w.freeze ⟨b, C.size, none⟩ 1) hk rfl hN ?_ fun a' hk' => hK a' _ hk' ?_
  · simp [execOp, hk.op hx, convert, run_underlying ht, run_underlying he, markStringish, hsh]
  · unfold World.freeze
    rw [if_neg (by decide)]
    refine ⟨?_, fun k hk => ?_, by simp, rfl, rfl, rfl⟩
    · show (w.heap.modify b _)[b]? = _
      rw [Array.getElem?_modify, hb]
      simp
    · simp [Array.getElem?_modify, Ne.symm hk]
end Go.Proofs.YtidfbboalbchiaaDoor

namespace Go.Proofs.YtidfbboalbchiaaDoor
open Go Go.RowKit

theorem sha_abc : sha [97, 98, 99] = [186, 120, 22, 191, 143, 1, 207, 234, 65, 65, 64, 222, 93, 174, 34, 35, 176, 3, 97, 163, 150, 23, 122, 156, 180, 16, 255, 97, 242, 0, 21, 173] := sha_is _ _ (by kernel_rfl)
theorem hex_abc : hexL (sha [97, 98, 99]) = [98, 97, 55, 56, 49, 54, 98, 102, 56, 102, 48, 49, 99, 102, 101, 97, 52, 49, 52, 49, 52, 48, 100, 101, 53, 100, 97, 101, 50, 50, 50, 51, 98, 48, 48, 51, 54, 49, 97, 51, 57, 54, 49, 55, 55, 97, 57, 99, 98, 52, 49, 48, 102, 102, 54, 49, 102, 50, 48, 48, 49, 53, 97, 100] := by rw [sha_abc]; kernel_rfl
theorem mac_jefe : mac [74, 101, 102, 101] [119, 104, 97, 116, 32, 100, 111, 32, 121, 97, 32, 119, 97, 110, 116, 32, 102, 111, 114, 32, 110, 111, 116, 104, 105, 110, 103, 63] = [91, 220, 193, 70, 191, 96, 117, 78, 106, 4, 36, 38, 8, 149, 117, 199, 90, 0, 63, 8, 157, 39, 57, 131, 157, 236, 88, 185, 100, 236, 56, 67] := by
  have h : sha (key64 [74, 101, 102, 101] 54 ++ [119, 104, 97, 116, 32, 100, 111, 32, 121, 97, 32, 119, 97, 110, 116, 32, 102, 111, 114, 32, 110, 111, 116, 104, 105, 110, 103, 63]) = [162, 228, 133, 134, 61, 39, 249, 216, 100, 172, 141, 128, 36, 50, 161, 237, 71, 125, 140, 76, 111, 52, 157, 22, 212, 231, 233, 23, 198, 41, 202, 215] := sha_is _ _ (by kernel_rfl)
  unfold mac
  rw [h]
  exact sha_is _ _ (by kernel_rfl)
theorem hex_jefe : hexL (mac [74, 101, 102, 101] [119, 104, 97, 116, 32, 100, 111, 32, 121, 97, 32, 119, 97, 110, 116, 32, 102, 111, 114, 32, 110, 111, 116, 104, 105, 110, 103, 63]) = [53, 98, 100, 99, 99, 49, 52, 54, 98, 102, 54, 48, 55, 53, 52, 101, 54, 97, 48, 52, 50, 52, 50, 54, 48, 56, 57, 53, 55, 53, 99, 55, 53, 97, 48, 48, 51, 102, 48, 56, 57, 100, 50, 55, 51, 57, 56, 51, 57, 100, 101, 99, 53, 56, 98, 57, 54, 52, 101, 99, 51, 56, 52, 51] := by rw [mac_jefe]; kernel_rfl
theorem of_a : sha (ofIn 8 [[97], []]) = [54, 205, 80, 133, 3, 41, 248, 132, 6, 227, 27, 184, 167, 216, 251, 98, 14, 118, 198, 112, 165, 195, 11, 158, 192, 170, 190, 22, 148, 0, 123, 21] := sha_is _ _ (by kernel_rfl)
theorem hex_of : hexL ((sha (ofIn 8 [[97], []])).take 16) = [51, 54, 99, 100, 53, 48, 56, 53, 48, 51, 50, 57, 102, 56, 56, 52, 48, 54, 101, 51, 49, 98, 98, 56, 97, 55, 100, 56, 102, 98, 54, 50] := by rw [of_a]; kernel_rfl
theorem lit3 (z v u t : Value) (hv : v.cells = #[v]) (hu : u.cells = #[u]) (ht : t.cells = #[t]) : Instr.fill (fun i => some (i * 1, 1)) ((Array.range (3 * 1)).map (z.cells[· % z.cells.size]!)) [(0, v), (1, u), (2, t)] = some #[v, u, t] := by
  have hr : Array.range 3 = #[0, 1, 2] := by decide
  have h : ∀ p q s : Value, (#[p, q, s] : Array Value).setIfInBounds 0 v = #[v, q, s] := fun _ _ _ => rfl
  have h' : ∀ p q s : Value, (#[p, q, s] : Array Value).setIfInBounds 1 u = #[p, u, s] := fun _ _ _ => rfl
  have h'' : ∀ p q s : Value, (#[p, q, s] : Array Value).setIfInBounds 2 t = #[p, q, t] := fun _ _ _ => rfl
  simp [Instr.fill, hv, hu, ht, hr, h, h', h'']
theorem eg24 : Tryd.prog.eqGuardType Tryd.prog.depth 24 = false := by kernel_rfl
theorem eg44 : Tryd.prog.eqGuardType Tryd.prog.depth 44 = false := by kernel_rfl

set_option maxRecDepth 4000 in
set_option maxHeartbeats 1000000 in
theorem c22 (w0 : World) (hG : GH w0) : Calls Tryd.prog 22 #[] w0 fun e w' => e = .returned (.bool true) ∧ Ext w0 w' := by
  refine start (args := []) 49 Tryd.func22 rfl rfl rfl fun a hk => ?_
  refine wp_seq_k fun K1 hK1 => ?_
  refine wp_region_lit ?_
  refine ls hk rfl rfl rfl (e_assign hk rfl _) fun a hk => ?_
  refine lnil (hK1 _ _ ?_)
  refine wp_seq_k fun K2 hK2 => ?_
  have hB : Ext w0 w0 := Below.refl _ _
  refine wp_region_lit ?_
  refine la hk rfl (a_lit (cells := #[B 97, B 98, B 99]) (zv := .int .u8 0) (sz := 1) (by_ := 1) hk rfl rfl Tryd.underlying22 el5 (by decide) (by decide) (lit3 _ _ _ _ rfl rfl rfl) rfl fun a w bl hk GL => ?_)
  have hB := ext_trans hB GL.ext
  refine la hk rfl (a_convB hk rfl rfl Tryd.underlying22 Tryd.underlying5 GL.at_ fun a w hk WL => ?_)
  have hB : Ext w0 w := WL.below GL.ext GL.ge
  have hRd : Rd w (some ⟨bl, 0, none⟩) 3 3 1 (([97, 98, 99] : List UInt8).map B) := Rd.of_block WL.at_ rfl (Nat.le_refl _) (fun i hi => by
    have hi' : i < 3 := hi
    match i, hi' with
    | 0, _ => rfl
    | 1, _ => rfl
    | 2, _ => rfl)
  clear WL GL
  refine la hk rfl (a_call hk rfl rfl (c_fn hk rfl ok23) (c23 [97, 98, 99] _ _ _ _ hRd (hG.ext hB) (by decide)) ?_)
  rintro e w ⟨rfl, hE⟩
  refine ⟨_, rfl, fun a hk => ?_⟩
  have hB := ext_trans hB hE
  refine la hk rfl (a_alloc hk rfl zr24 fun a w b1 hk G1 => ?_)
  refine la hk rfl (a_storeB hk rfl rfl (bytes_oneA _) (by rw [sz24]; simp [length_sha]) G1.at_ (by simp [length_sha, Value.cells]) fun a w hk W1 => ?_)
  have hB := W1.below (ext_trans hB G1.ext) (Nat.le_trans hB.size G1.ge)
  have h1 := W1.at_
  clear W1 G1 hE
  refine lnil (hK2 _ _ ?_)
  refine wp_seq_k fun K3 hK3 => ?_
  refine wp_region_lit ?_
  refine la hk rfl (a_call hk rfl rfl (c_fn (vs := []) hk rfl ok26) (c26 _) ?_)
  rintro e w ⟨v, rfl, hIs, hE⟩
  refine ⟨_, rfl, fun a hk => ?_⟩
  have h1 := ext_at hE h1
  have hB := ext_trans hB hE
  refine la hk rfl (a_call hk rfl rfl (c_fn hk rfl ok27) (c27 [] [97] _ _ hIs (hG.ext hB) (by decide)) ?_)
  rintro e w ⟨v, rfl, hIs, hE⟩
  refine ⟨_, rfl, fun a hk => ?_⟩
  have h1 := ext_at hE h1
  have hB := ext_trans hB hE
  refine la hk rfl (a_call hk rfl rfl (c_fn hk rfl ok27) (c27 _ [98, 99] _ _ hIs (hG.ext hB) (by decide)) ?_)
  rintro e w ⟨v, rfl, hIs, hE⟩
  refine ⟨_, rfl, fun a hk => ?_⟩
  have h1 := ext_at hE h1
  have hB := ext_trans hB hE
  refine la hk rfl (a_call hk rfl rfl (c_fn hk rfl ok29) (c29 [97, 98, 99] _ _ hIs (hG.ext hB) (by decide)) ?_)
  rintro e w ⟨rfl, hE⟩
  refine ⟨_, rfl, fun a hk => ?_⟩
  have h1 := ext_at hE h1
  have hB := ext_trans hB hE
  refine la hk rfl (a_alloc hk rfl zr24 fun a w b2 hk G2 => ?_)
  refine la hk rfl (a_storeB hk rfl rfl (bytes_oneA _) (by rw [sz24]; simp [length_sha]) G2.at_ (by simp [length_sha, Value.cells]) fun a w hk W1 => ?_)
  have h1 := W1.keep (G2.ne h1) (ext_at G2.ext h1)
  have hB := W1.below (ext_trans hB G2.ext) (Nat.le_trans hB.size G2.ge)
  have h2 := W1.at_
  clear W1 G2 hE hIs
  refine lnil (hK3 _ _ ?_)
  refine wp_seq_k fun K4 hK4 => ?_
  refine wp_region_lit ?_
  refine la hk rfl (a_lit (cells := #[Str [97], Str []]) (zv := .string ByteArray.empty) (sz := 1) (by_ := 16) hk rfl rfl Tryd.underlying27 el9 (by decide) (by decide) (lit2 _ _ _ rfl rfl) rfl fun a w bl hk GL => ?_)
  have h1 := ext_at GL.ext h1
  have h2 := ext_at GL.ext h2
  have hB := ext_trans hB GL.ext
  have hRs : Rs w (some ⟨bl, 0, none⟩) 2 2 [[97], []] := Rd.of_block GL.at_ rfl (Nat.le_refl _) (fun i hi => by
    have hi' : i < 2 := hi
    match i, hi' with
    | 0, _ => rfl
    | 1, _ => rfl)
  clear GL
  refine la hk rfl (a_call hk rfl rfl (c_fn hk rfl ok35) (c35 8 [[97], []] _ _ _ hRs (hG.ext hB) (by decide) (by decide)) ?_)
  rintro e w ⟨rfl, hE⟩
  refine ⟨_, rfl, fun a hk => ?_⟩
  have hB := ext_trans hB hE
  have h1 := ext_at hE h1
  have h2 := ext_at hE h2
  refine la hk rfl (a_alloc hk rfl zr44 fun a w b3 hk G3 => ?_)
  refine la hk rfl (a_storeB hk rfl rfl (bytes_oneA _) (by rw [sz44]; simp [length_sha]) G3.at_ (by simp [length_sha, Value.cells]) fun a w hk W1 => ?_)
  have h1 := W1.keep (G3.ne h1) (ext_at G3.ext h1)
  have h2 := W1.keep (G3.ne h2) (ext_at G3.ext h2)
  have hB := W1.below (ext_trans hB G3.ext) (Nat.le_trans hB.size G3.ge)
  have h3 := W1.at_
  clear W1 G3 hE hRs
  refine lnil (hK4 _ _ ?_)
  refine wp_seq_k fun K5 hK5 => ?_
  refine wp_region_lit ?_
  refine la hk rfl (a_call hk rfl rfl (c_fn hk rfl ok30) (c30 [74, 101, 102, 101] [119, 104, 97, 116, 32, 100, 111, 32, 121, 97, 32, 119, 97, 110, 116, 32, 102, 111, 114, 32, 110, 111, 116, 104, 105, 110, 103, 63] _ (hG.ext hB) (by decide) (by decide)) ?_)
  rintro e w ⟨rfl, hE⟩
  refine ⟨_, rfl, fun a hk => ?_⟩
  have hB := ext_trans hB hE
  have h1 := ext_at hE h1
  have h2 := ext_at hE h2
  have h3 := ext_at hE h3
  refine ls hk rfl rfl rfl (e_assign hk rfl _) fun a hk => ?_
  refine lnil (hK5 _ _ ?_)
  refine wp_seq_k fun K6 hK6 => ?_
  refine wp_region_lit ?_
  refine la hk rfl (a_call hk rfl rfl (c_fn hk rfl ok43) (c43 [97, 98] [97, 98] _ (by decide)) ?_)
  rintro e w ⟨rfl, hE⟩
  refine ⟨.bool true, rfl, fun a hk => ?_⟩
  have hB := ext_trans hB hE
  have h1 := ext_at hE h1
  have h2 := ext_at hE h2
  have h3 := ext_at hE h3
  refine ls hk rfl rfl rfl (e_assign hk rfl _) fun a hk => ?_
  refine lnil (hK6 _ _ ?_)
  refine wp_seq_k fun K7 hK7 => ?_
  refine wp_region_lit ?_
  refine la hk rfl (a_call hk rfl rfl (c_fn hk rfl ok43) (c43 [97, 98] [97, 99] _ (by decide)) ?_)
  rintro e w ⟨rfl, hE⟩
  refine ⟨.bool false, rfl, fun a hk => ?_⟩
  have hB := ext_trans hB hE
  have h1 := ext_at hE h1
  have h2 := ext_at hE h2
  have h3 := ext_at hE h3
  refine ls hk rfl rfl rfl (e_move hk rfl _) fun a hk => ?_
  refine la hk rfl (a_call hk rfl rfl (c_fn hk rfl ok43) (c43 [] [97] _ (by decide)) ?_)
  rintro e w ⟨rfl, hE⟩
  refine ⟨.bool false, rfl, fun a hk => ?_⟩
  have hB := ext_trans hB hE
  have h1 := ext_at hE h1
  have h2 := ext_at hE h2
  have h3 := ext_at hE h3
  refine ls hk rfl rfl rfl (e_pickF hk rfl rfl _) fun a hk => ?_
  refine ls hk rfl rfl rfl (e_assign hk rfl _) fun a hk => ?_
  refine lnil (hK7 _ _ ?_)
  refine wp_seq_k fun K8 hK8 => ?_
  refine wp_region_lit ?_
  refine ls hk rfl rfl rfl (r_loadB hk rfl h1 Tryd.underlying24 rfl (by rw [sz24]; simp [length_sha])) fun a hk => ?_
  refine la hk rfl (a_call hk rfl rfl (c_fn hk rfl ok32) (c32 (sha [97, 98, 99]) _ (length_sha _)) ?_)
  rintro e w ⟨rfl, hE⟩
  refine ⟨_, rfl, fun a hk => ?_⟩
  have hB := ext_trans hB hE
  have h1 := ext_at hE h1
  have h2 := ext_at hE h2
  have h3 := ext_at hE h3
  refine la hk rfl (a_call hk rfl rfl (c_fn hk rfl ok65) (c65 (sha [97, 98, 99]) _ (by rw [length_sha]; decide)) ?_)
  rintro e w ⟨rfl, hE⟩
  refine ⟨_, rfl, fun a hk => ?_⟩
  have hB := ext_trans hB hE
  have h1 := ext_at hE h1
  have h2 := ext_at hE h2
  have h3 := ext_at hE h3
  refine ls hk rfl rfl rfl (e_seql (s := hexL (sha [97, 98, 99])) (b := true) hk rfl rfl (decide_eq_true hex_abc) _) fun a hk => ?_
  refine ls hk rfl rfl rfl (e_move hk rfl _) fun a hk => ?_
  refine ls hk rfl rfl rfl (r_loadB hk rfl h1 Tryd.underlying24 rfl (by rw [sz24]; simp [length_sha])) fun a hk => ?_
  refine ls hk rfl rfl rfl (r_loadB hk rfl h2 Tryd.underlying24 rfl (by rw [sz24]; simp [length_sha])) fun a hk => ?_
  refine ls hk rfl rfl rfl (e_eqA (l := sha [97, 98, 99]) (r := sha [97, 98, 99]) (b := true) hk rfl rfl Tryd.underlying24 Tryd.underlying5 sz5 (length_sha _) (length_sha _) eg24 (decide_eq_true rfl) _) fun a hk => ?_
  refine ls hk rfl rfl rfl (e_pickT hk rfl rfl _) fun a hk => ?_
  refine ls hk rfl rfl rfl (e_move hk rfl _) fun a hk => ?_
  refine ls hk rfl rfl rfl (e_move hk rfl _) fun a hk => ?_
  refine la hk rfl (a_call hk rfl rfl (c_fn hk rfl ok65) (c65 (mac [74, 101, 102, 101] [119, 104, 97, 116, 32, 100, 111, 32, 121, 97, 32, 119, 97, 110, 116, 32, 102, 111, 114, 32, 110, 111, 116, 104, 105, 110, 103, 63]) _ (by rw [mac_jefe]; decide)) ?_)
  rintro e w ⟨rfl, hE⟩
  refine ⟨_, rfl, fun a hk => ?_⟩
  have hB := ext_trans hB hE
  have h3 := ext_at hE h3
  refine ls hk rfl rfl rfl (e_seql (s := hexL (mac [74, 101, 102, 101] [119, 104, 97, 116, 32, 100, 111, 32, 121, 97, 32, 119, 97, 110, 116, 32, 102, 111, 114, 32, 110, 111, 116, 104, 105, 110, 103, 63])) (b := true) hk rfl rfl (decide_eq_true hex_jefe) _) fun a hk => ?_
  refine ls hk rfl rfl rfl (e_pickT hk rfl rfl _) fun a hk => ?_
  refine ls hk rfl rfl rfl (e_move hk rfl _) fun a hk => ?_
  refine ls hk rfl rfl rfl (r_loadB hk rfl h3 Tryd.underlying44 rfl (by rw [sz44]; simp [length_sha])) fun a hk => ?_
  refine la hk rfl (a_call hk rfl rfl (c_fn hk rfl ok66) (c66 ((sha (ofIn 8 [[97], []])).take 16) _ (by simp [length_sha])) ?_)
  rintro e w ⟨rfl, hE⟩
  refine ⟨_, rfl, fun a hk => ?_⟩
  have hB := ext_trans hB hE
  refine la hk rfl (a_call hk rfl rfl (c_fn hk rfl ok65) (c65 ((sha (ofIn 8 [[97], []])).take 16) _ (by simp [length_sha])) ?_)
  rintro e w ⟨rfl, hE⟩
  refine ⟨_, rfl, fun a hk => ?_⟩
  have hB := ext_trans hB hE
  refine ls hk rfl rfl rfl (e_seql (s := hexL ((sha (ofIn 8 [[97], []])).take 16)) (b := true) hk rfl rfl (decide_eq_true hex_of) _) fun a hk => ?_
  refine ls hk rfl rfl rfl (e_pickT hk rfl rfl _) fun a hk => ?_
  refine ls hk rfl rfl rfl (e_move hk rfl _) fun a hk => ?_
  refine ls hk rfl rfl rfl (e_move hk rfl _) fun a hk => ?_
  refine ls hk rfl rfl rfl (e_pickT hk rfl rfl _) fun a hk => ?_
  refine ls hk rfl rfl rfl (e_move hk rfl _) fun a hk => ?_
  refine ls hk rfl rfl rfl (e_move hk rfl _) fun a hk => ?_
  refine ls hk rfl rfl rfl (e_notF hk rfl _) fun a hk => ?_
  refine ls hk rfl rfl rfl (e_pickT hk rfl rfl _) fun a hk => ?_
  refine ls hk rfl rfl rfl (e_assign hk rfl _) fun a hk => ?_
  refine lnil (hK8 _ _ ?_)
  refine wp_ret ?_
  exact ret1 hk rfl rfl ⟨rfl, hB⟩

end Go.Proofs.YtidfbboalbchiaaDoor

namespace Go.Proofs.YtidfbboalbchiaaDoor
open Go Go.RowKit

theorem c69 (x : UInt32) (n : Nat) (h0 : 0 < n) (h : n < 32) (w0 : World) : Calls Tryd.prog 69 #[W x, I n] w0 fun e w' => e = .returned (W (rotr x n)) ∧ Ext w0 w' := by
  refine start 13 Tryd.func69 rfl rfl rfl fun a hk => ?_
  refine wp_seq_k fun K1 hK1 => ?_
  refine wp_region_lit ?_
  refine ls hk rfl rfl rfl (e_assign hk rfl _) fun a hk => ?_
  refine lnil (hK1 _ _ ?_)
  refine wp_seq_k fun K2 hK2 => ?_
  refine wp_region_ok (fun _ => True) [0, 0, 0, 0, 0, 0, 0, 0, 0] mixed ?_
  refine d0 0 hk rfl (by kernel_rfl) rfl rfl rfl rfl (fun _ => e_move hk rfl _) fun a hk => ?_
  refine d0 1 hk rfl (by kernel_rfl) rfl rfl rfl rfl (fun _ => e_move hk rfl _) fun a hk => ?_
  refine d0 2 hk rfl (by kernel_rfl) rfl rfl rfl rfl (fun _ => e_shr hk rfl rfl (by omega) (w_shr _ _ (by omega)) _) fun a hk => ?_
  refine d0 3 hk rfl (by kernel_rfl) rfl rfl rfl rfl (fun _ => e_move hk rfl _) fun a hk => ?_
  refine d0 4 hk rfl (by kernel_rfl) rfl rfl rfl rfl (fun _ => e_move hk rfl _) fun a hk => ?_
  refine d0 5 hk rfl (by kernel_rfl) rfl rfl rfl rfl (fun _ => e_sub (q := ((32 - n : Nat) : Int)) hk rfl rfl (by rw [i64 (by omega) (by omega)]; omega) _) fun a hk => ?_
  refine d0 6 hk rfl (by kernel_rfl) rfl rfl rfl rfl (fun _ => e_shl hk rfl rfl (by omega) (w_shl _ _ (by omega)) _) fun a hk => ?_
  refine d0 7 hk rfl (by kernel_rfl) rfl rfl rfl rfl (fun _ => e_or hk rfl rfl (w_or _ _) _) fun a hk => ?_
  refine d0 8 hk rfl (by kernel_rfl) rfl rfl rfl rfl (fun _ => e_assign hk rfl _) fun a hk => ?_
  refine okFin (by kernel_rfl) (hK2 _ _ ?_)
  refine wp_ret ?_
  refine ret1 hk rfl rfl ⟨?_, ext_drew _⟩
  simp only [Int.toNat_natCast]
  rw [rotr, UInt32.or_comm]

theorem word_or (p q r s : UInt8) : word [p, q, r, s] = ((p.toUInt32 <<< UInt32.ofNat 24 ||| q.toUInt32 <<< UInt32.ofNat 16) ||| r.toUInt32 <<< UInt32.ofNat 8) ||| s.toUInt32 := by
  apply UInt32.toNat.inj
  rw [word4]
  have hb : ∀ x : UInt8, x.toNat < 256 := fun x => x.toNat_lt
  have hp := hb p; have hq := hb q; have hr := hb r; have hs := hb s
  simp only [UInt32.toNat_or, UInt32.toNat_shiftLeft, UInt8.toNat_toUInt32]
  rw [show (UInt32.ofNat 24).toNat % 32 = 24 from rfl, show (UInt32.ofNat 16).toNat % 32 = 16 from rfl, show (UInt32.ofNat 8).toNat % 32 = 8 from rfl]
  rw [Nat.mod_eq_of_lt (by rw [Nat.shiftLeft_eq]; omega), Nat.mod_eq_of_lt (by rw [Nat.shiftLeft_eq]; omega), Nat.mod_eq_of_lt (by rw [Nat.shiftLeft_eq]; omega)]
  rw [← Nat.shiftLeft_add_eq_or_of_lt (b := q.toNat <<< 16) (i := 24) (by rw [Nat.shiftLeft_eq]; omega)]
  rw [show p.toNat <<< 24 + q.toNat <<< 16 = (p.toNat * 256 + q.toNat) <<< 16 by simp only [Nat.shiftLeft_eq]; omega]
  rw [← Nat.shiftLeft_add_eq_or_of_lt (b := r.toNat <<< 8) (i := 16) (by rw [Nat.shiftLeft_eq]; omega)]
  rw [show (p.toNat * 256 + q.toNat) <<< 16 + r.toNat <<< 8 = ((p.toNat * 256 + q.toNat) * 256 + r.toNat) <<< 8 by simp only [Nat.shiftLeft_eq]; omega]
  rw [← Nat.shiftLeft_add_eq_or_of_lt (b := s.toNat) (i := 8) (by omega)]
  simp only [Nat.shiftLeft_eq]; omega
theorem word_at (bs : List UInt8) (j : Nat) (h : 4 * j + 4 ≤ bs.length) : word ((bs.drop (4 * j)).take 4) = ((((bs.getD (4 * j) 0).toUInt32 <<< UInt32.ofNat 24 ||| (bs.getD (4 * j + 1) 0).toUInt32 <<< UInt32.ofNat 16) ||| (bs.getD (4 * j + 2) 0).toUInt32 <<< UInt32.ofNat 8) ||| (bs.getD (4 * j + 3) 0).toUInt32) := by
  have e : (bs.drop (4 * j)).take 4 = [bs.getD (4 * j) 0, bs.getD (4 * j + 1) 0, bs.getD (4 * j + 2) 0, bs.getD (4 * j + 3) 0] := by
    apply List.ext_getElem?
    intro i
    rw [List.getElem?_take]
    by_cases hi : i < 4
    · rw [if_pos hi, List.getElem?_drop]
      have : i = 0 ∨ i = 1 ∨ i = 2 ∨ i = 3 := by omega
      rcases this with rfl | rfl | rfl | rfl
      · simp [show 4 * j < bs.length by omega]
      · simp [show 4 * j + 1 < bs.length by omega]
      · simp [show 4 * j + 2 < bs.length by omega]
      · simp [show 4 * j + 3 < bs.length by omega]
    · rw [if_neg hi]
      simp; omega
  rw [e, word_or]

set_option maxRecDepth 4000 in
set_option maxHeartbeats 1000000 in
theorem c68 (bs : List UInt8) (bb oo cc : Nat) (w0 : World) (hl : bs.length = 64) (hR : Rd w0 (some ⟨bb, oo, none⟩) 64 cc 1 (bs.map B)) :
    Calls Tryd.prog 68 #[.slice (some ⟨bb, oo, none⟩) 64 cc] w0 fun e w' => e = .returned (.agg ((sched bs 64).map W).toArray) ∧ Ext w0 w' := by
  refine start 101 Tryd.func68 rfl rfl rfl fun a hk => ?_
  refine wp_seq_k fun K1 hK1 => ?_
  refine wp_region_lit ?_
  refine la hk rfl (a_alloc hk rfl zr100 fun a w b2 hk G2 => ?_)
  refine lnil (hK1 _ _ ?_)
  refine wp_seq_k fun K2 hK2 => ?_
  refine wp_region_lit ?_
  refine la hk rfl (a_alloc hk rfl zr100 fun a w b3 hk G3 => ?_)
  refine lnil (hK2 _ _ ?_)
  refine wp_seq_k fun K3 hK3 => ?_
  refine wp_seq_k fun K4 hK4 => ?_
  have hB : Below w0.heap.size w0 w := ext_trans G2.ext G3.ext
  have h2 := ext_at G3.ext G2.at_
  have h3 : w.heap[b3]? = some (.cells ((sched bs 0 ++ List.replicate (64 - 0) 0).map W).toArray 100 (0, 0)) := G3.at_
  have hne : b2 ≠ b3 := G3.ne G2.at_
  have hg2 := G2.ge
  have hg3 : w0.heap.size ≤ b3 := Nat.le_trans G2.ext.size G3.ge
  have hcc := hR.2.1
  clear G2 G3
  refine wp_region_lit ?_
  refine ls hk rfl rfl rfl (e_assign hk rfl _) fun a hk => ?_
  refine lnil (hK4 _ _ ?_)
  refine wp_block ?_
  refine loopN (fun n a w => ∃ j : Nat, n = 16 - j ∧ j ≤ 16 ∧ Kn a 101 [(0, .slice (some ⟨bb, oo, none⟩) 64 cc), (2, .pointer (some ⟨b2, 0, none⟩)), (3, .pointer (some ⟨b3, 0, none⟩)), (4, I j)] ∧ Below w0.heap.size w0 w ∧ (∃ z, w.heap[b2]? = some (.cells z 100 (0, 0)) ∧ z.size = 64) ∧ w.heap[b3]? = some (.cells ((sched bs j ++ List.replicate (64 - j) 0).map W).toArray 100 (0, 0))) (16) ?_ fun n a w hI => ?_
  · exact ⟨0, rfl, by omega, hk.sub _ ⟨rfl, rfl, rfl, rfl, trivial⟩, hB, ⟨_, h2, rfl⟩, h3⟩
  clear hB h2 h3
  obtain ⟨j, rfl, hj, hk, hB, ⟨z, h2, hz⟩, h3⟩ := hI
  refine wp_seq_k fun K5 hK5 => ?_
  refine wp_seq_k fun K6 hK6 => ?_
  refine wp_region_lit ?_
  refine ls hk rfl rfl rfl (e_move hk rfl _) fun a hk => ?_
  refine ls hk rfl rfl rfl (e_lss hk rfl rfl rfl _) fun a hk => ?_
  refine lnil (hK6 _ _ ?_)
  refine cdB hk rfl (fun hb => ?_) (fun hb => ?_)
  · have hj1 : j < 16 := by have := of_decide_eq_true hb; omega
    refine wp_skip (hK5 _ _ ?_)
    refine wp_seq_k fun K7 hK7 => ?_
    refine wp_block ?_
    refine wp_region_ok (fun _ => True) [0, 0, 0, 0, 0, 1, 0, 0, 0, 0, 0, 0, 0, 1, 0, 0, 0, 0, 0, 0, 0, 0, 1, 0, 0, 0, 0, 0, 0, 0, 0, 1, 0, 0, 0, 2] mixed ?_
    have hB := hB.drew
    have h2 : w.drew.heap[b2]? = _ := h2
    have h3 : w.drew.heap[b3]? = _ := h3
    refine d0 0 hk rfl (by kernel_rfl) rfl rfl rfl rfl (fun _ => e_move hk rfl _) fun a hk => ?_
    refine d0 1 hk rfl (by kernel_rfl) rfl rfl rfl rfl (fun _ => e_move hk rfl _) fun a hk => ?_
    refine d0 2 hk rfl (by kernel_rfl) rfl rfl rfl rfl (fun _ => e_move hk rfl _) fun a hk => ?_
    refine d0 3 hk rfl (by kernel_rfl) rfl rfl rfl rfl (fun _ => e_mul (q := ((4 * j : Nat) : Int)) hk rfl rfl (by rw [i64 (by omega) (by omega)]; omega) _) fun a hk => ?_
    refine d0 4 hk rfl (by kernel_rfl) rfl rfl rfl rfl (fun _ => e_idxS1 (4 * j) hk rfl rfl Tryd.underlying22 sz5 rfl (by omega) _) fun a hk => ?_
    refine d1 5 hk rfl (by kernel_rfl) rfl rfl rfl rfl (r_load1 (v := B (bs.getD (4 * j) 0)) hk rfl Tryd.underlying5 rfl (ext_cell hB (bytes_at hR (4 * j) _ (by omega) (by omega)))) fun a hk => ?_
    refine d0 6 hk rfl (by kernel_rfl) rfl rfl rfl rfl (fun _ => e_conv hk rfl Tryd.underlying5 Tryd.underlying29 (b_w _) _) fun a hk => ?_
    refine d0 7 hk rfl (by kernel_rfl) rfl rfl rfl rfl (fun _ => e_shl hk rfl rfl (by decide) (w_shl _ 24 (by decide)) _) fun a hk => ?_
    refine d0 8 hk rfl (by kernel_rfl) rfl rfl rfl rfl (fun _ => e_move hk rfl _) fun a hk => ?_
    refine d0 9 hk rfl (by kernel_rfl) rfl rfl rfl rfl (fun _ => e_move hk rfl _) fun a hk => ?_
    refine d0 10 hk rfl (by kernel_rfl) rfl rfl rfl rfl (fun _ => e_mul (q := ((4 * j : Nat) : Int)) hk rfl rfl (by rw [i64 (by omega) (by omega)]; omega) _) fun a hk => ?_
    refine d0 11 hk rfl (by kernel_rfl) rfl rfl rfl rfl (fun _ => e_add (q := ((4 * j + 1 : Nat) : Int)) hk rfl rfl (by rw [i64 (by omega) (by omega)]; omega) _) fun a hk => ?_
    refine d0 12 hk rfl (by kernel_rfl) rfl rfl rfl rfl (fun _ => e_idxS1 (4 * j + 1) hk rfl rfl Tryd.underlying22 sz5 rfl (by omega) _) fun a hk => ?_
    refine d1 13 hk rfl (by kernel_rfl) rfl rfl rfl rfl (r_load1 (v := B (bs.getD (4 * j + 1) 0)) hk rfl Tryd.underlying5 rfl (ext_cell hB (bytes_at hR (4 * j + 1) _ (by omega) (by omega)))) fun a hk => ?_
    refine d0 14 hk rfl (by kernel_rfl) rfl rfl rfl rfl (fun _ => e_conv hk rfl Tryd.underlying5 Tryd.underlying29 (b_w _) _) fun a hk => ?_
    refine d0 15 hk rfl (by kernel_rfl) rfl rfl rfl rfl (fun _ => e_shl hk rfl rfl (by decide) (w_shl _ 16 (by decide)) _) fun a hk => ?_
    refine d0 16 hk rfl (by kernel_rfl) rfl rfl rfl rfl (fun _ => e_or hk rfl rfl (w_or _ _) _) fun a hk => ?_
    refine d0 17 hk rfl (by kernel_rfl) rfl rfl rfl rfl (fun _ => e_move hk rfl _) fun a hk => ?_
    refine d0 18 hk rfl (by kernel_rfl) rfl rfl rfl rfl (fun _ => e_move hk rfl _) fun a hk => ?_
    refine d0 19 hk rfl (by kernel_rfl) rfl rfl rfl rfl (fun _ => e_mul (q := ((4 * j : Nat) : Int)) hk rfl rfl (by rw [i64 (by omega) (by omega)]; omega) _) fun a hk => ?_
    refine d0 20 hk rfl (by kernel_rfl) rfl rfl rfl rfl (fun _ => e_add (q := ((4 * j + 2 : Nat) : Int)) hk rfl rfl (by rw [i64 (by omega) (by omega)]; omega) _) fun a hk => ?_
    refine d0 21 hk rfl (by kernel_rfl) rfl rfl rfl rfl (fun _ => e_idxS1 (4 * j + 2) hk rfl rfl Tryd.underlying22 sz5 rfl (by omega) _) fun a hk => ?_
    refine d1 22 hk rfl (by kernel_rfl) rfl rfl rfl rfl (r_load1 (v := B (bs.getD (4 * j + 2) 0)) hk rfl Tryd.underlying5 rfl (ext_cell hB (bytes_at hR (4 * j + 2) _ (by omega) (by omega)))) fun a hk => ?_
    refine d0 23 hk rfl (by kernel_rfl) rfl rfl rfl rfl (fun _ => e_conv hk rfl Tryd.underlying5 Tryd.underlying29 (b_w _) _) fun a hk => ?_
    refine d0 24 hk rfl (by kernel_rfl) rfl rfl rfl rfl (fun _ => e_shl hk rfl rfl (by decide) (w_shl _ 8 (by decide)) _) fun a hk => ?_
    refine d0 25 hk rfl (by kernel_rfl) rfl rfl rfl rfl (fun _ => e_or hk rfl rfl (w_or _ _) _) fun a hk => ?_
    refine d0 26 hk rfl (by kernel_rfl) rfl rfl rfl rfl (fun _ => e_move hk rfl _) fun a hk => ?_
    refine d0 27 hk rfl (by kernel_rfl) rfl rfl rfl rfl (fun _ => e_move hk rfl _) fun a hk => ?_
    refine d0 28 hk rfl (by kernel_rfl) rfl rfl rfl rfl (fun _ => e_mul (q := ((4 * j : Nat) : Int)) hk rfl rfl (by rw [i64 (by omega) (by omega)]; omega) _) fun a hk => ?_
    refine d0 29 hk rfl (by kernel_rfl) rfl rfl rfl rfl (fun _ => e_add (q := ((4 * j + 3 : Nat) : Int)) hk rfl rfl (by rw [i64 (by omega) (by omega)]; omega) _) fun a hk => ?_
    refine d0 30 hk rfl (by kernel_rfl) rfl rfl rfl rfl (fun _ => e_idxS1 (4 * j + 3) hk rfl rfl Tryd.underlying22 sz5 rfl (by omega) _) fun a hk => ?_
    refine d1 31 hk rfl (by kernel_rfl) rfl rfl rfl rfl (r_load1 (v := B (bs.getD (4 * j + 3) 0)) hk rfl Tryd.underlying5 rfl (ext_cell hB (bytes_at hR (4 * j + 3) _ (by omega) (by omega)))) fun a hk => ?_
    refine d0 32 hk rfl (by kernel_rfl) rfl rfl rfl rfl (fun _ => e_conv hk rfl Tryd.underlying5 Tryd.underlying29 (b_w _) _) fun a hk => ?_
    refine d0 33 hk rfl (by kernel_rfl) rfl rfl rfl rfl (fun _ => e_or hk rfl rfl (w_or _ _) _) fun a hk => ?_
    refine d0 34 hk rfl (by kernel_rfl) rfl rfl rfl rfl (fun _ => e_idxA1 j hk rfl rfl Tryd.underlying100 sz29 rfl (by omega) _) fun a hk => ?_
    refine da 35 hk rfl (by kernel_rfl) rfl rfl (a_store hk rfl rfl rfl sz29 h3 (by simp [length_sched]; omega) fun a w hk W5 => ?_)
    have hB := W5.below hB hg3
    have h2 := W5.keep hne h2
    have h3 : w.heap[b3]? = some (.cells ((sched bs (j + 1) ++ List.replicate (64 - (j + 1)) 0).map W).toArray 100 (0, 0)) := by
      have h := W5.at_
      rw [show 64 - j = (63 - j) + 1 by omega, List.replicate_succ, show sched bs j ++ 0 :: List.replicate (63 - j) 0 = sched bs j ++ [0] ++ List.replicate (63 - j) 0 by simp,
        words_set _ _ _ _ _ (by rw [length_sched]; omega)] at h
      rw [h, show 64 - (j + 1) = 63 - j by omega, sched, if_pos hj1, word_at bs j (by omega)]
    clear W5
    refine okFin (by kernel_rfl) (hK7 _ _ ?_)
    refine wp_region_lit ?_
    refine ls hk rfl rfl rfl (e_move hk rfl _) fun a hk => ?_
    refine ls hk rfl rfl rfl (e_add hk rfl rfl (i64 (by omega) (by omega)) _) fun a hk => ?_
    refine ls hk rfl rfl rfl (e_assign hk rfl _) fun a hk => ?_
    refine lnil (show ∃ m : Nat, m < _ ∧ _ from ⟨16 - (j + 1), by omega, j + 1, rfl, by omega, hk.sub _ ⟨rfl, rfl, rfl, rfl, trivial⟩, hB, ⟨_, h2, hz⟩, h3⟩)
  · have hj1 : j = 16 := by have := of_decide_eq_false hb; omega
    subst hj1
    refine wp_exit (hK3 _ _ ?_)
    refine wp_seq_k fun K8 hK8 => ?_
    refine wp_seq_k fun K9 hK9 => ?_
    refine wp_region_lit ?_
    refine ls hk rfl rfl rfl (e_assign hk rfl _) fun a hk => ?_
    refine lnil (hK9 _ _ ?_)
    refine wp_block ?_
    refine loopN (fun n a w => ∃ j : Nat, n = 64 - j ∧ 16 ≤ j ∧ j ≤ 64 ∧ Kn a 101 [(0, .slice (some ⟨bb, oo, none⟩) 64 cc), (2, .pointer (some ⟨b2, 0, none⟩)), (3, .pointer (some ⟨b3, 0, none⟩)), (5, I j)] ∧ Below w0.heap.size w0 w ∧ (∃ z, w.heap[b2]? = some (.cells z 100 (0, 0)) ∧ z.size = 64) ∧ w.heap[b3]? = some (.cells ((sched bs j ++ List.replicate (64 - j) 0).map W).toArray 100 (0, 0))) (48) ?_ fun n a w hI => ?_
    · exact ⟨16, rfl, by omega, by omega, hk.sub _ ⟨rfl, rfl, rfl, rfl, trivial⟩, hB, ⟨_, h2, hz⟩, h3⟩
    clear hB h2 h3 hz
    obtain ⟨j, rfl, h16, hj, hk, hB, ⟨z, h2, hz⟩, h3⟩ := hI
    refine wp_seq_k fun K10 hK10 => ?_
    refine wp_seq_k fun K11 hK11 => ?_
    refine wp_region_lit ?_
    refine ls hk rfl rfl rfl (e_move hk rfl _) fun a hk => ?_
    refine ls hk rfl rfl rfl (e_lss hk rfl rfl rfl _) fun a hk => ?_
    refine lnil (hK11 _ _ ?_)
    refine cdB hk rfl (fun hb => ?_) (fun hb => ?_)
    · have hj1 : j < 64 := by have := of_decide_eq_true hb; omega
      refine wp_skip (hK10 _ _ ?_)
      refine wp_seq_k fun K12 hK12 => ?_
      refine wp_block ?_
      refine wp_seq_k fun K13 hK13 => ?_
      refine wp_region_ok (fun w => w.heap[b3]? = some (.cells ((sched bs j ++ List.replicate (64 - j) 0).map W).toArray 100 (0, 0))) [0, 0, 0, 3, 4, 0, 0, 0, 3, 4, 0, 0, 0, 0, 3, 0, 0, 0] mixed ?_
      have hB := hB.drew
      have h2 := ext_at (ext_drew w) h2
      have hS := ext_at (ext_drew w) h3
      refine d0 0 hk rfl (by kernel_rfl) rfl rfl rfl rfl (fun _ => e_move hk rfl _) fun a hk => ?_
      refine d0 1 hk rfl (by kernel_rfl) rfl rfl rfl rfl (fun _ => e_sub (q := ((j - 15 : Nat) : Int)) hk rfl rfl (by rw [i64 (by omega) (by omega)]; omega) _) fun a hk => ?_
      refine d0 2 hk rfl (by kernel_rfl) rfl rfl rfl rfl (fun _ => e_idxA1 (j - 15) hk rfl rfl Tryd.underlying100 sz29 rfl (by omega) _) fun a hk => ?_
      refine d3 3 hk rfl (by kernel_rfl) rfl rfl rfl rfl hS (fun w hS => r_load (v := W ((sched bs j).getD (j - 15) 0)) hk rfl Tryd.underlying29 rfl hS (words_at _ _ _ (j - 15) (by omega) (by rw [length_sched]; omega))) fun a hk => ?_
      refine da4 4 hk rfl (by kernel_rfl) rfl rfl hS (a_call hk rfl rfl (c_fn hk rfl ok69) (c69 _ 7 (by decide) (by decide) _) ?_)
      rintro e w ⟨rfl, hE⟩
      refine ⟨_, rfl, fun a hk => ⟨ext_at hE hS, ?_⟩⟩
      have hS := ext_at hE hS
      have h2 := ext_at hE h2
      have hB := ext_trans hB hE
      clear hE
      refine d0 5 hk rfl (by kernel_rfl) rfl rfl rfl rfl (fun _ => e_move hk rfl _) fun a hk => ?_
      refine d0 6 hk rfl (by kernel_rfl) rfl rfl rfl rfl (fun _ => e_sub (q := ((j - 15 : Nat) : Int)) hk rfl rfl (by rw [i64 (by omega) (by omega)]; omega) _) fun a hk => ?_
      refine d0 7 hk rfl (by kernel_rfl) rfl rfl rfl rfl (fun _ => e_idxA1 (j - 15) hk rfl rfl Tryd.underlying100 sz29 rfl (by omega) _) fun a hk => ?_
      refine d3 8 hk rfl (by kernel_rfl) rfl rfl rfl rfl hS (fun w hS => r_load (v := W ((sched bs j).getD (j - 15) 0)) hk rfl Tryd.underlying29 rfl hS (words_at _ _ _ (j - 15) (by omega) (by rw [length_sched]; omega))) fun a hk => ?_
      refine da4 9 hk rfl (by kernel_rfl) rfl rfl hS (a_call hk rfl rfl (c_fn hk rfl ok69) (c69 _ 18 (by decide) (by decide) _) ?_)
      rintro e w ⟨rfl, hE⟩
      refine ⟨_, rfl, fun a hk => ⟨ext_at hE hS, ?_⟩⟩
      have hS := ext_at hE hS
      have h2 := ext_at hE h2
      have hB := ext_trans hB hE
      clear hE
      refine d0 10 hk rfl (by kernel_rfl) rfl rfl rfl rfl (fun _ => e_xor hk rfl rfl (w_xor _ _) _) fun a hk => ?_
      refine d0 11 hk rfl (by kernel_rfl) rfl rfl rfl rfl (fun _ => e_move hk rfl _) fun a hk => ?_
      refine d0 12 hk rfl (by kernel_rfl) rfl rfl rfl rfl (fun _ => e_sub (q := ((j - 15 : Nat) : Int)) hk rfl rfl (by rw [i64 (by omega) (by omega)]; omega) _) fun a hk => ?_
      refine d0 13 hk rfl (by kernel_rfl) rfl rfl rfl rfl (fun _ => e_idxA1 (j - 15) hk rfl rfl Tryd.underlying100 sz29 rfl (by omega) _) fun a hk => ?_
      refine d3 14 hk rfl (by kernel_rfl) rfl rfl rfl rfl hS (fun w hS => r_load (v := W ((sched bs j).getD (j - 15) 0)) hk rfl Tryd.underlying29 rfl hS (words_at _ _ _ (j - 15) (by omega) (by rw [length_sched]; omega))) fun a hk => ?_
      refine d0 15 hk rfl (by kernel_rfl) rfl rfl rfl rfl (fun _ => e_shr hk rfl rfl (by decide) (w_shr _ 3 (by decide)) _) fun a hk => ?_
      refine d0 16 hk rfl (by kernel_rfl) rfl rfl rfl rfl (fun _ => e_xor hk rfl rfl (w_xor _ _) _) fun a hk => ?_
      refine d0 17 hk rfl (by kernel_rfl) rfl rfl rfl rfl (fun _ => e_assign hk rfl _) fun a hk => ?_
      have h3 := hS
      clear hS
      refine okFin (by kernel_rfl) (hK13 _ _ ?_)
      refine wp_seq_k fun K14 hK14 => ?_
      refine wp_region_ok (fun w => w.heap[b3]? = some (.cells ((sched bs j ++ List.replicate (64 - j) 0).map W).toArray 100 (0, 0))) [0, 0, 0, 3, 4, 0, 0, 0, 3, 4, 0, 0, 0, 0, 3, 0, 0, 0] mixed ?_
      have hB := hB.drew
      have h2 := ext_at (ext_drew w) h2
      have hS := ext_at (ext_drew w) h3
      refine d0 0 hk rfl (by kernel_rfl) rfl rfl rfl rfl (fun _ => e_move hk rfl _) fun a hk => ?_
      refine d0 1 hk rfl (by kernel_rfl) rfl rfl rfl rfl (fun _ => e_sub (q := ((j - 2 : Nat) : Int)) hk rfl rfl (by rw [i64 (by omega) (by omega)]; omega) _) fun a hk => ?_
      refine d0 2 hk rfl (by kernel_rfl) rfl rfl rfl rfl (fun _ => e_idxA1 (j - 2) hk rfl rfl Tryd.underlying100 sz29 rfl (by omega) _) fun a hk => ?_
      refine d3 3 hk rfl (by kernel_rfl) rfl rfl rfl rfl hS (fun w hS => r_load (v := W ((sched bs j).getD (j - 2) 0)) hk rfl Tryd.underlying29 rfl hS (words_at _ _ _ (j - 2) (by omega) (by rw [length_sched]; omega))) fun a hk => ?_
      refine da4 4 hk rfl (by kernel_rfl) rfl rfl hS (a_call hk rfl rfl (c_fn hk rfl ok69) (c69 _ 17 (by decide) (by decide) _) ?_)
      rintro e w ⟨rfl, hE⟩
      refine ⟨_, rfl, fun a hk => ⟨ext_at hE hS, ?_⟩⟩
      have hS := ext_at hE hS
      have h2 := ext_at hE h2
      have hB := ext_trans hB hE
      clear hE
      refine d0 5 hk rfl (by kernel_rfl) rfl rfl rfl rfl (fun _ => e_move hk rfl _) fun a hk => ?_
      refine d0 6 hk rfl (by kernel_rfl) rfl rfl rfl rfl (fun _ => e_sub (q := ((j - 2 : Nat) : Int)) hk rfl rfl (by rw [i64 (by omega) (by omega)]; omega) _) fun a hk => ?_
      refine d0 7 hk rfl (by kernel_rfl) rfl rfl rfl rfl (fun _ => e_idxA1 (j - 2) hk rfl rfl Tryd.underlying100 sz29 rfl (by omega) _) fun a hk => ?_
      refine d3 8 hk rfl (by kernel_rfl) rfl rfl rfl rfl hS (fun w hS => r_load (v := W ((sched bs j).getD (j - 2) 0)) hk rfl Tryd.underlying29 rfl hS (words_at _ _ _ (j - 2) (by omega) (by rw [length_sched]; omega))) fun a hk => ?_
      refine da4 9 hk rfl (by kernel_rfl) rfl rfl hS (a_call hk rfl rfl (c_fn hk rfl ok69) (c69 _ 19 (by decide) (by decide) _) ?_)
      rintro e w ⟨rfl, hE⟩
      refine ⟨_, rfl, fun a hk => ⟨ext_at hE hS, ?_⟩⟩
      have hS := ext_at hE hS
      have h2 := ext_at hE h2
      have hB := ext_trans hB hE
      clear hE
      refine d0 10 hk rfl (by kernel_rfl) rfl rfl rfl rfl (fun _ => e_xor hk rfl rfl (w_xor _ _) _) fun a hk => ?_
      refine d0 11 hk rfl (by kernel_rfl) rfl rfl rfl rfl (fun _ => e_move hk rfl _) fun a hk => ?_
      refine d0 12 hk rfl (by kernel_rfl) rfl rfl rfl rfl (fun _ => e_sub (q := ((j - 2 : Nat) : Int)) hk rfl rfl (by rw [i64 (by omega) (by omega)]; omega) _) fun a hk => ?_
      refine d0 13 hk rfl (by kernel_rfl) rfl rfl rfl rfl (fun _ => e_idxA1 (j - 2) hk rfl rfl Tryd.underlying100 sz29 rfl (by omega) _) fun a hk => ?_
      refine d3 14 hk rfl (by kernel_rfl) rfl rfl rfl rfl hS (fun w hS => r_load (v := W ((sched bs j).getD (j - 2) 0)) hk rfl Tryd.underlying29 rfl hS (words_at _ _ _ (j - 2) (by omega) (by rw [length_sched]; omega))) fun a hk => ?_
      refine d0 15 hk rfl (by kernel_rfl) rfl rfl rfl rfl (fun _ => e_shr hk rfl rfl (by decide) (w_shr _ 10 (by decide)) _) fun a hk => ?_
      refine d0 16 hk rfl (by kernel_rfl) rfl rfl rfl rfl (fun _ => e_xor hk rfl rfl (w_xor _ _) _) fun a hk => ?_
      refine d0 17 hk rfl (by kernel_rfl) rfl rfl rfl rfl (fun _ => e_assign hk rfl _) fun a hk => ?_
      have h3 := hS
      clear hS
      refine okFin (by kernel_rfl) (hK14 _ _ ?_)
      refine wp_region_ok (fun _ => True) [0, 0, 0, 0, 1, 0, 0, 0, 0, 0, 1, 0, 0, 0, 0, 2] mixed ?_
      have hB := hB.drew
      have h2 := ext_at (ext_drew w) h2
      have h3 := ext_at (ext_drew w) h3
      refine d0 0 hk rfl (by kernel_rfl) rfl rfl rfl rfl (fun _ => e_move hk rfl _) fun a hk => ?_
      refine d0 1 hk rfl (by kernel_rfl) rfl rfl rfl rfl (fun _ => e_move hk rfl _) fun a hk => ?_
      refine d0 2 hk rfl (by kernel_rfl) rfl rfl rfl rfl (fun _ => e_sub (q := ((j - 16 : Nat) : Int)) hk rfl rfl (by rw [i64 (by omega) (by omega)]; omega) _) fun a hk => ?_
      refine d0 3 hk rfl (by kernel_rfl) rfl rfl rfl rfl (fun _ => e_idxA1 (j - 16) hk rfl rfl Tryd.underlying100 sz29 rfl (by omega) _) fun a hk => ?_
      refine d1 4 hk rfl (by kernel_rfl) rfl rfl rfl rfl (r_load (v := W ((sched bs j).getD (j - 16) 0)) hk rfl Tryd.underlying29 rfl h3 (words_at _ _ _ (j - 16) (by omega) (by rw [length_sched]; omega))) fun a hk => ?_
      refine d0 5 hk rfl (by kernel_rfl) rfl rfl rfl rfl (fun _ => e_move hk rfl _) fun a hk => ?_
      refine d0 6 hk rfl (by kernel_rfl) rfl rfl rfl rfl (fun _ => e_add hk rfl rfl (w_add _ _) _) fun a hk => ?_
      refine d0 7 hk rfl (by kernel_rfl) rfl rfl rfl rfl (fun _ => e_move hk rfl _) fun a hk => ?_
      refine d0 8 hk rfl (by kernel_rfl) rfl rfl rfl rfl (fun _ => e_sub (q := ((j - 7 : Nat) : Int)) hk rfl rfl (by rw [i64 (by omega) (by omega)]; omega) _) fun a hk => ?_
      refine d0 9 hk rfl (by kernel_rfl) rfl rfl rfl rfl (fun _ => e_idxA1 (j - 7) hk rfl rfl Tryd.underlying100 sz29 rfl (by omega) _) fun a hk => ?_
      refine d1 10 hk rfl (by kernel_rfl) rfl rfl rfl rfl (r_load (v := W ((sched bs j).getD (j - 7) 0)) hk rfl Tryd.underlying29 rfl h3 (words_at _ _ _ (j - 7) (by omega) (by rw [length_sched]; omega))) fun a hk => ?_
      refine d0 11 hk rfl (by kernel_rfl) rfl rfl rfl rfl (fun _ => e_add hk rfl rfl (w_add _ _) _) fun a hk => ?_
      refine d0 12 hk rfl (by kernel_rfl) rfl rfl rfl rfl (fun _ => e_move hk rfl _) fun a hk => ?_
      refine d0 13 hk rfl (by kernel_rfl) rfl rfl rfl rfl (fun _ => e_add hk rfl rfl (w_add _ _) _) fun a hk => ?_
      refine d0 14 hk rfl (by kernel_rfl) rfl rfl rfl rfl (fun _ => e_idxA1 j hk rfl rfl Tryd.underlying100 sz29 rfl (by omega) _) fun a hk => ?_
      refine da 15 hk rfl (by kernel_rfl) rfl rfl (a_store hk rfl rfl rfl sz29 h3 (by simp [length_sched]; omega) fun a w hk W5 => ?_)
      have hB := W5.below hB hg3
      have h2 := W5.keep hne h2
      have h3 : w.heap[b3]? = some (.cells ((sched bs (j + 1) ++ List.replicate (64 - (j + 1)) 0).map W).toArray 100 (0, 0)) := by
        have h := W5.at_
        rw [show 64 - j = (63 - j) + 1 by omega, List.replicate_succ, show sched bs j ++ 0 :: List.replicate (63 - j) 0 = sched bs j ++ [0] ++ List.replicate (63 - j) 0 by simp,
          words_set _ _ _ _ _ (by rw [length_sched]; omega)] at h
        rw [h, show 64 - (j + 1) = 63 - j by omega, sched, if_neg (by omega)]
        rfl
      clear W5
      refine okFin (by kernel_rfl) (hK12 _ _ ?_)
      refine wp_region_lit ?_
      refine ls hk rfl rfl rfl (e_move hk rfl _) fun a hk => ?_
      refine ls hk rfl rfl rfl (e_add hk rfl rfl (i64 (by omega) (by omega)) _) fun a hk => ?_
      refine ls hk rfl rfl rfl (e_assign hk rfl _) fun a hk => ?_
      refine lnil (show ∃ m : Nat, m < _ ∧ _ from ⟨64 - (j + 1), by omega, j + 1, rfl, by omega, by omega, hk.sub _ ⟨rfl, rfl, rfl, rfl, trivial⟩, hB, ⟨_, h2, hz⟩, h3⟩)
    · have hj1 : j = 64 := by have := of_decide_eq_false hb; omega
      subst hj1
      refine wp_exit (hK8 _ _ ?_)
      refine wp_seq_k fun K15 hK15 => ?_
      refine wp_region_lit ?_
      refine ls hk rfl rfl rfl (r_loadB hk rfl h3 Tryd.underlying100 rfl (by rw [sz100]; simp [length_sched])) fun a hk => ?_
      refine la hk rfl (a_storeB hk rfl rfl (words_one _) (by rw [sz100]; simp [length_sched]) h2 (by rw [hz]; simp [length_sched]) fun a w hk W12 => ?_)
      refine lnil (hK15 _ _ ?_)
      refine wp_ret ?_
      refine retA hk rfl rfl W12.at_ Tryd.underlying100 rfl (by rw [sz100]; simp [length_sched]) ⟨by simp, W12.below hB hg2⟩

end Go.Proofs.YtidfbboalbchiaaDoor

namespace Go.Proofs.YtidfbboalbchiaaDoor
open Go Go.RowKit

theorem a_lit0 {P : Program} {ty : TypeId} {pos : String} {af : Array Edge} {g : Option (Nat × Bool)} {N d : Nat} {L : Fm} {a : Act} {w : World} {t e : TypeId} {zv : Value} {sz by_ : Nat} {K : Act → World → Prop} (hk : Kn a N L) (hN : Nat.blt d N = true) (ht : P.underlying t = some (.slice e)) (hz : El P e zv sz by_)
    (hK : ∀ a' w' b, Kn a' N ((d, .slice (some ⟨b, 0, none⟩) 0 0) :: L) → Grew w w' b (.cells #[] e) → K a' w') : acts P ⟨some d, .buildSlice t 0 #[], ty, pos, af, g⟩ K a w := by
  refine act_v (v := .slice (some ⟨w.heap.size, 0, none⟩) 0 0) (w' := w.alloc (.cells #[] e)) hk rfl hN ?_ fun a' hk' => hK a' _ _ hk' (grew_alloc _ _)
  unfold El at hz
  cases hq : P.info? e with
  | none => simp [hq] at hz
  | some inf =>
    have hr : Array.range 0 = #[] := by decide
    simp [execOp, Instr.buildSlice, run_underlying ht, sizeOf, typeInfo, hq, newRow, Instr.fill, hr]
/-- A message, its first padding byte, k zero bytes. -/
def pad1 (m : List UInt8) (k : Nat) : List UInt8 := m ++ [128] ++ List.replicate k 0
theorem pad1_succ (m : List UInt8) (k : Nat) : pad1 m (k + 1) = pad1 m k ++ [0] := by
  unfold pad1
  rw [List.replicate_succ']; simp
theorem length_pad1 (m : List UInt8) (k : Nat) : (pad1 m k).length = m.length + 1 + k := by simp [pad1]; omega
theorem pad_all (m : List UInt8) : pad1 m (zeros m.length) ++ len8 (8 * m.length) = m ++ padding m.length := by simp [pad1, padding]

set_option maxRecDepth 4000 in
set_option maxHeartbeats 1000000 in
theorem c67 (m : List UInt8) (ad0 : Option Addr) (c0 : Nat) (w0 : World) (hR : Rd w0 ad0 m.length c0 1 (m.map B)) (hl : m.length ≤ 140737488353232) :
    Calls Tryd.prog 67 #[.slice ad0 m.length c0] w0 fun e w' => ∃ ad c, e = .returned (.slice ad (m ++ padding m.length).length c) ∧ w'.ownsRow w0.heap.size 5 1 (.slice ad (m ++ padding m.length).length c) (m ++ padding m.length).length ((m ++ padding m.length).map B) ∧ Ext w0 w' := by
  refine start 37 Tryd.func67 rfl rfl rfl fun a hk => ?_
  refine wp_seq_k fun K1 hK1 => ?_
  refine wp_region_lit ?_
  refine ls hk rfl rfl rfl (e_assign hk rfl _) fun a hk => ?_
  refine lnil (hK1 _ _ ?_)
  refine wp_seq_k fun K2 hK2 => ?_
  have hB : Ext w0 w0 := Below.refl _ _
  have hCC : w0.heap.size ≤ w0.heap.size := Nat.le_refl _
  refine wp_region_lit ?_
  refine la hk rfl (a_lit0 hk rfl Tryd.underlying22 el5 fun a w bl hk GL => ?_)
  have hB := ext_trans hB GL.ext
  have hown : w.ownsRow w0.heap.size 5 1 (.slice (some ⟨bl, 0, none⟩) 0 0) 0 [] := lit_own (n := 0) (sz := 1) GL rfl (by decide)
  have hCC := hB.size
  clear GL
  refine ls hk rfl rfl rfl (e_move hk rfl _) fun a hk => ?_
  refine la hk rfl (a_app (news := m.map B) hk rfl rfl hown rfl (hR.ext hB) (bytes_one m) Tryd.underlying22 el5 rfl (by decide) (by omega) (by omega) hCC fun a w v hk hown' hKp => ?_)
  have hB := kept_below hKp hB hown (Nat.le_refl _) hCC
  have hCC := Nat.le_trans hCC hKp.size
  clear hown hKp
  obtain ⟨ad, c, rfl, _, _⟩ := Rd.of_own hown'
  have hown : w.ownsRow w0.heap.size 5 1 (.slice ad (0 + m.length) c) (0 + m.length) (m.map B) := hown'
  clear hown'
  refine ls hk rfl rfl rfl (e_assign hk rfl _) fun a hk => ?_
  refine lnil (hK2 _ _ ?_)
  refine wp_seq_k fun K3 hK3 => ?_
  refine wp_region_lit ?_
  refine ls hk rfl rfl rfl (e_move hk rfl _) fun a hk => ?_
  refine la hk rfl (a_lit (cells := #[B (128)]) (zv := .int .u8 0) (sz := 1) (by_ := 1) hk rfl rfl Tryd.underlying22 el5 (by decide) (by decide) (lit1 _ _ rfl) rfl fun a w bl hk GL => ?_)
  have hB := ext_trans hB GL.ext
  have hown := own_ext hown GL.ext
  have hRd := lit_byte _ GL
  have hCC := Nat.le_trans hCC GL.ext.size
  clear GL
  refine la hk rfl (a_app hk rfl rfl hown rfl hRd (bytes_one _) Tryd.underlying22 el5 rfl (by decide) (by omega) (by omega) hCC fun a w v hk hown' hKp => ?_)
  have hB := kept_below hKp hB hown (Nat.le_refl _) hCC
  have hCC := Nat.le_trans hCC hKp.size
  clear hown hRd hKp
  obtain ⟨ad, c, rfl, _, _⟩ := Rd.of_own hown'
  have hown : w.ownsRow w0.heap.size 5 1 (.slice ad (0 + m.length + 1) c) (0 + m.length + 1) ((pad1 m 0).map B) := by
    rw [show pad1 m 0 = m ++ [128] by simp [pad1], List.map_append]; exact hown'
  clear hown'
  refine ls hk rfl rfl rfl (e_assign hk rfl _) fun a hk => ?_
  rw [show 0 + m.length + 1 = m.length + 1 + 0 by omega] at hk hown
  refine lnil (hK3 _ _ ?_)
  refine wp_seq_k fun K4 hK4 => ?_
  refine wp_block ?_
  refine loopN (fun n a w => ∃ k : Nat, n = zeros m.length - k ∧ k ≤ zeros m.length ∧ ∃ (ad : Option Addr) (c : Nat), Kn a 37 [(0, .slice ad0 m.length c0), (3, .slice ad (m.length + 1 + k) c)] ∧ Below w0.heap.size w0 w ∧ w0.heap.size ≤ w.heap.size ∧ w.ownsRow w0.heap.size 5 1 (.slice ad (m.length + 1 + k) c) (m.length + 1 + k) ((pad1 m k).map B)) (zeros m.length) ?_ fun n a w hI => ?_
  · exact ⟨0, rfl, Nat.zero_le _, _, _, hk.sub _ ⟨rfl, rfl, trivial⟩, hB, hCC, hown⟩
  clear hB hCC hown
  obtain ⟨k, rfl, hkz, ad, c, hk, hB, hCC, hown⟩ := hI
  have hz64 : zeros m.length < 64 := Nat.mod_lt _ (by decide)
  refine wp_seq_k fun K5 hK5 => ?_
  refine wp_seq_k fun K6 hK6 => ?_
  refine wp_region_lit ?_
  refine ls hk rfl rfl rfl (e_move hk rfl _) fun a hk => ?_
  refine ls hk rfl rfl rfl (e_lenS hk rfl Tryd.underlying22 _) fun a hk => ?_
  refine ls hk rfl rfl rfl (e_rem (q := (((m.length + 1 + k) % 64 : Nat) : Int)) hk rfl rfl (by decide) (i_rem (m.length + 1 + k) 64) _) fun a hk => ?_
  refine ls hk rfl rfl rfl (e_neq hk rfl rfl rfl _) fun a hk => ?_
  refine lnil (hK6 _ _ ?_)
  refine cdB hk rfl (fun hb => ?_) (fun hb => ?_)
  · have hne : (m.length + 1 + k) % 64 ≠ 56 := by
      intro h
      rw [h] at hb
      simp at hb
    have hlt : k < zeros m.length := by unfold zeros at hkz ⊢; omega
    refine wp_skip (hK5 _ _ ?_)
    refine wp_block ?_
    refine wp_region_lit ?_
    refine ls hk rfl rfl rfl (e_move hk rfl _) fun a hk => ?_
    refine la hk rfl (a_lit (cells := #[B (0)]) (zv := .int .u8 0) (sz := 1) (by_ := 1) hk rfl rfl Tryd.underlying22 el5 (by decide) (by decide) (lit1 _ _ rfl) rfl fun a w bl hk GL => ?_)
    have hB := ext_trans hB GL.ext
    have hown := own_ext hown GL.ext
    have hRd := lit_byte _ GL
    have hCC := Nat.le_trans hCC GL.ext.size
    clear GL
    refine la hk rfl (a_app hk rfl rfl hown rfl hRd (bytes_one _) Tryd.underlying22 el5 rfl (by decide) (by omega) (by omega) hCC fun a w v hk hown' hKp => ?_)
    have hB := kept_below hKp hB hown (Nat.le_refl _) hCC
    have hCC := Nat.le_trans hCC hKp.size
    clear hown hRd hKp
    obtain ⟨ad, c, rfl, _, _⟩ := Rd.of_own hown'
    have hown : w.ownsRow w0.heap.size 5 1 (.slice ad (m.length + 1 + (k + 1)) c) (m.length + 1 + (k + 1)) ((pad1 m (k + 1)).map B) := by
      rw [pad1_succ, List.map_append]; exact hown'
    clear hown'
    refine ls hk rfl rfl rfl (e_assign hk rfl _) fun a hk => ?_
    refine lnil (show ∃ m : Nat, m < _ ∧ _ from ⟨zeros m.length - (k + 1), by omega, k + 1, rfl, by omega, _, _, hk.sub _ ⟨rfl, rfl, trivial⟩, hB, hCC, hown⟩)
  · have he : (m.length + 1 + k) % 64 = 56 := by
      have h : (((m.length + 1 + k) % 64 : Nat) : Int) = 56 := by simpa using hb
      omega
    have hz : k = zeros m.length := by unfold zeros at hkz ⊢; omega
    subst hz
    refine wp_exit (hK4 _ _ ?_)
    refine wp_seq_k fun K7 hK7 => ?_
    refine wp_region_lit ?_
    refine ls hk rfl rfl rfl (e_move hk rfl _) fun a hk => ?_
    refine ls hk rfl rfl rfl (e_lenS hk rfl Tryd.underlying22 _) fun a hk => ?_
    refine ls hk rfl rfl rfl (e_conv hk rfl Tryd.underlying3 Tryd.underlying32 (u64 (by omega) (by omega)) _) fun a hk => ?_
    refine ls hk rfl rfl rfl (e_mul (q := ((8 * m.length : Nat) : Int)) hk rfl rfl (by rw [u64 (by omega) (by omega)]; omega) _) fun a hk => ?_
    refine ls hk rfl rfl rfl (e_assign hk rfl _) fun a hk => ?_
    refine lnil (hK7 _ _ ?_)
    refine wp_seq_k fun K8 hK8 => ?_
    refine wp_seq_k fun K9 hK9 => ?_
    refine wp_region_lit ?_
    refine ls hk rfl rfl rfl (e_assign hk rfl _) fun a hk => ?_
    refine lnil (hK9 _ _ ?_)
    refine wp_block ?_
    refine loopN (fun n a w => ∃ i : Nat, n = 8 - i ∧ i ≤ 8 ∧ ∃ (ad : Option Addr) (c : Nat), Kn a 37 [(0, .slice ad0 m.length c0), (3, .slice ad (m.length + 1 + zeros m.length + i) c), (4, .int .u64 ((8 * m.length : Nat) : Int)), (5, I i)] ∧ Below w0.heap.size w0 w ∧ w0.heap.size ≤ w.heap.size ∧ w.ownsRow w0.heap.size 5 1 (.slice ad (m.length + 1 + zeros m.length + i) c) (m.length + 1 + zeros m.length + i) ((pad1 m (zeros m.length) ++ (len8 (8 * m.length)).take i).map B)) (8) ?_ fun n a w hI => ?_
    · exact ⟨0, rfl, by omega, ad, c, hk.sub _ ⟨rfl, rfl, rfl, rfl, trivial⟩, hB, hCC, by rw [List.take_zero, List.append_nil]; exact hown⟩
    clear hB hCC hown
    obtain ⟨i, rfl, hi, ad, c, hk, hB, hCC, hown⟩ := hI
    refine wp_seq_k fun K10 hK10 => ?_
    refine wp_seq_k fun K11 hK11 => ?_
    refine wp_region_lit ?_
    refine ls hk rfl rfl rfl (e_move hk rfl _) fun a hk => ?_
    refine ls hk rfl rfl rfl (e_lss hk rfl rfl rfl _) fun a hk => ?_
    refine lnil (hK11 _ _ ?_)
    refine cdB hk rfl (fun hb => ?_) (fun hb => ?_)
    · have hi8 : i < 8 := by have := of_decide_eq_true hb; omega
      refine wp_skip (hK10 _ _ ?_)
      refine wp_seq_k fun K12 hK12 => ?_
      refine wp_block ?_
      refine wp_region_lit ?_
      refine ls hk rfl rfl rfl (e_move hk rfl _) fun a hk => ?_
      refine ls hk rfl rfl rfl (e_move hk rfl _) fun a hk => ?_
      refine ls hk rfl rfl rfl (e_move hk rfl _) fun a hk => ?_
      refine ls hk rfl rfl rfl (e_mul (q := ((8 * i : Nat) : Int)) hk rfl rfl (by rw [i64 (by omega) (by omega)]; omega) _) fun a hk => ?_
      refine ls hk rfl rfl rfl (e_sub (q := ((56 - 8 * i : Nat) : Int)) hk rfl rfl (by rw [i64 (by omega) (by omega)]; omega) _) fun a hk => ?_
      refine ls hk rfl rfl rfl (e_shr hk rfl rfl (by omega) (u_shr _ (56 - 8 * i) (by omega)) _) fun a hk => ?_
      refine ls hk rfl rfl rfl (e_conv hk rfl Tryd.underlying32 Tryd.underlying5 (u_b _) _) fun a hk => ?_
      refine la hk rfl (a_lit (cells := #[B (UInt8.ofNat (8 * m.length / 2 ^ (56 - 8 * i) % 256))]) (zv := .int .u8 0) (sz := 1) (by_ := 1) hk rfl rfl Tryd.underlying22 el5 (by decide) (by decide) (lit1 _ _ rfl) rfl fun a w bl hk GL => ?_)
      have hB := ext_trans hB GL.ext
      have hown := own_ext hown GL.ext
      have hRd := lit_byte _ GL
      have hCC := Nat.le_trans hCC GL.ext.size
      clear GL
      refine la hk rfl (a_app hk rfl rfl hown rfl hRd (bytes_one _) Tryd.underlying22 el5 rfl (by decide) (by omega) (by omega) hCC fun a w v hk hown' hKp => ?_)
      have hB := kept_below hKp hB hown (Nat.le_refl _) hCC
      have hCC := Nat.le_trans hCC hKp.size
      clear hown hRd hKp
      obtain ⟨ad, c, rfl, _, _⟩ := Rd.of_own hown'
      have hown : w.ownsRow w0.heap.size 5 1 (.slice ad (m.length + 1 + zeros m.length + (i + 1)) c) (m.length + 1 + zeros m.length + (i + 1)) ((pad1 m (zeros m.length) ++ (len8 (8 * m.length)).take (i + 1)).map B) := by
        rw [len8_take _ _ hi8, ← List.append_assoc, List.map_append]; exact hown'
      clear hown'
      refine ls hk rfl rfl rfl (e_assign hk rfl _) fun a hk => ?_
      refine lnil (hK12 _ _ ?_)
      refine wp_region_lit ?_
      refine ls hk rfl rfl rfl (e_move hk rfl _) fun a hk => ?_
      refine ls hk rfl rfl rfl (e_add hk rfl rfl (i64 (by omega) (by omega)) _) fun a hk => ?_
      refine ls hk rfl rfl rfl (e_assign hk rfl _) fun a hk => ?_
      refine lnil (show ∃ m : Nat, m < _ ∧ _ from ⟨8 - (i + 1), by omega, i + 1, rfl, by omega, _, _, hk.sub _ ⟨rfl, rfl, rfl, rfl, trivial⟩, hB, hCC, hown⟩)
    · have hi8 : i = 8 := by have := of_decide_eq_false hb; omega
      subst hi8
      refine wp_exit (hK8 _ _ ?_)
      refine wp_seq_k fun K13 hK13 => ?_
      refine wp_region_lit ?_
      refine ls hk rfl rfl rfl (e_move hk rfl _) fun a hk => ?_
      refine ls hk rfl rfl rfl (e_assign hk rfl _) fun a hk => ?_
      refine lnil (hK13 _ _ ?_)
      refine wp_ret ?_
      have hp : pad1 m (zeros m.length) ++ (len8 (8 * m.length)).take 8 = m ++ padding m.length := by rw [List.take_of_length_le (by simp [len8]), pad_all]
      have hlp : (m ++ padding m.length).length = m.length + 1 + zeros m.length + 8 := by rw [List.length_append, length_padding]; omega
      rw [hp] at hown
      rw [← hlp] at hk hown
      exact ret1 hk rfl rfl ⟨ad, c, rfl, hown, hB⟩

end Go.Proofs.YtidfbboalbchiaaDoor

namespace Go.Proofs.YtidfbboalbchiaaDoor
open Go Go.RowKit

theorem fill_cons (cs : Array Value) (i : Nat) (v : Value) (r : List (Nat × Value)) (hv : v.cells = #[v]) (hi : i < cs.size) : Instr.fill (fun i => some (i * 1, 1)) cs ((i, v) :: r) = Instr.fill (fun i => some (i * 1, 1)) (cs.setIfInBounds i v) r := by
  simp [Instr.fill, hv]
  omega
theorem fill8 (v0 v1 v2 v3 v4 v5 v6 v7 : Value) (h0 : v0.cells = #[v0]) (h1 : v1.cells = #[v1]) (h2 : v2.cells = #[v2]) (h3 : v3.cells = #[v3]) (h4 : v4.cells = #[v4]) (h5 : v5.cells = #[v5]) (h6 : v6.cells = #[v6]) (h7 : v7.cells = #[v7]) : Instr.fill (fun i => some (i * 1, 1)) (Value.agg (List.replicate 8 (Value.int .u32 0)).toArray).cells [(0, v0), (1, v1), (2, v2), (3, v3), (4, v4), (5, v5), (6, v6), (7, v7)] = some #[v0, v1, v2, v3, v4, v5, v6, v7] := by
  show Instr.fill (fun i => some (i * 1, 1)) (List.replicate 8 (Value.int .u32 0)).toArray _ = _
  rw [fill_cons _ 0 _ _ h0 (by simp), fill_cons _ 1 _ _ h1 (by simp), fill_cons _ 2 _ _ h2 (by simp), fill_cons _ 3 _ _ h3 (by simp), fill_cons _ 4 _ _ h4 (by simp), fill_cons _ 5 _ _ h5 (by simp), fill_cons _ 6 _ _ h6 (by simp), fill_cons _ 7 _ _ h7 (by simp)]
  simp [Instr.fill, List.replicate]
theorem not_eq (x : UInt32) : x ^^^ 4294967295 = ~~~x := by
  apply UInt32.toBitVec_inj.1
  show x.toBitVec ^^^ BitVec.allOnes 32 = ~~~x.toBitVec
  rw [BitVec.xor_allOnes]
theorem list_at (s : S8) (i : Nat) (h : i < 8) : (s.list.map W).toArray[0 + i]? = some (W (s.list.getD i 0)) := by
  have h8 : i < s.list.length := h
  simp [h8]
theorem hst_len (m : List UInt8) : 64 * ((m ++ padding m.length).length / 64) = (m ++ padding m.length).length := by
  rw [List.length_append, length_padding]; unfold zeros; omega

/-- A part of a row. -/
theorem sub_rd {w : World} {ad : Option Addr} {n c : Nat} {bs : List UInt8} (h : Rd w ad n c 1 (bs.map B)) (o k : Nat) (hk : o + k ≤ n) (h0 : 0 < k) : ∃ bp op, ad = some ⟨bp, op, none⟩ ∧ Rd w (some ⟨bp, op + o * 1, none⟩) k (c - o) 1 (((bs.drop o).take k).map B) := by
  have hn : bs.length = n := by have := h.1; simpa using this
  obtain ⟨bp, op, e, _⟩ := h.2.2 0 (B (bs.getD 0 0)) (by simp [show 0 < bs.length by omega])
  refine ⟨bp, op, e, by simp; omega, by have := h.2.1; omega, fun i u hu => ⟨bp, _, rfl, ?_⟩⟩
  have hi : i < k := by
    have := (List.getElem?_eq_some_iff.1 hu).1
    simp at this; omega
  rw [List.getElem?_map, List.getElem?_take, if_pos hi, List.getElem?_drop, ← List.getElem?_map] at hu
  obtain ⟨b', o', e', hc⟩ := h.2.2 (o + i) u hu
  rw [e] at e'
  cases e'
  rw [show op + o * 1 + i = op + (o + i) by omega]; exact hc
theorem rd_wrote {w w' : World} {ad : Option Addr} {n c sz : Nat} {xs : List Value} {b : Nat} {o : Obj} (h : Rd w ad n c sz xs) (hW : Wrote w w' b o) (hne : ∀ bp op, ad = some ⟨bp, op, none⟩ → bp ≠ b) : Rd w' ad n c sz xs :=
  ⟨h.1, h.2.1, fun i u hu => by obtain ⟨b', o', e, hc⟩ := h.2.2 i u hu; exact ⟨b', o', e, hW.cell (hne _ _ e) hc⟩⟩
theorem rd_fresh {w w' : World} {bp op n c : Nat} {xs : List Value} {b : Nat} {o : Obj} (h : Rd w (some ⟨bp, op, none⟩) n c 1 xs) (hx : 0 < xs.length) (G : Grew w w' b o) : bp ≠ b := by
  obtain ⟨b', o', e, hc⟩ := h.2.2 0 (xs[0]'hx) (by simp)
  cases e
  have h1 := World.block_lt_of_cell? w _ hc
  have h2 := G.ge
  have h3 : bp < w.heap.size := h1
  omega
theorem kc_at {w : World} (h : GR w) (t : Nat) (ht : t < 64) : w.cell? ⟨0, 0 + t, none⟩ = some (W (kc.getD t 0)) := by
  have hk : t < kc.length := ht
  exact h t _ (by simp [hk])

set_option maxRecDepth 4000 in
set_option maxHeartbeats 1000000 in
theorem c24 (m : List UInt8) (ad0 : Option Addr) (c0 : Nat) (w0 : World) (hR : Rd w0 ad0 m.length c0 1 (m.map B)) (hGR : GR w0) (hl : m.length ≤ 140737488353232) :
    Calls Tryd.prog 24 #[.slice ad0 m.length c0] w0 fun e w' => e = .returned (.agg ((sha m).map B).toArray) ∧ Ext w0 w' := by
  refine start 164 Tryd.func24 rfl rfl rfl fun a hk => ?_
  refine wp_seq_k fun K1 hK1 => ?_
  refine wp_region_lit ?_
  refine la hk rfl (a_alloc hk rfl zr24 fun a w b2 hk G2 => ?_)
  refine lnil (hK1 _ _ ?_)
  refine wp_seq_k fun K2 hK2 => ?_
  have hB : Below w0.heap.size w0 w := G2.ext
  have h2 : ∃ z, w.heap[b2]? = some (.cells z 24 (0, 0)) ∧ z.size = 32 := ⟨_, G2.at_, rfl⟩
  have hg2 := G2.ge
  clear G2
  obtain ⟨z2, h2, hz2⟩ := h2
  refine wp_region_lit ?_
  refine ls hk rfl rfl rfl (e_buildA (cells := (s8init.list.map W).toArray) hk rfl zr30 Tryd.underlying30 sz29 (by kernel_rfl) _) fun a hk => ?_
  refine la hk rfl (a_alloc hk rfl zr30 fun a w b3 hk G3 => ?_)
  refine la hk rfl (a_storeB hk rfl rfl (words_one _) sz30 G3.at_ rfl fun a w hk W1 => ?_)
  have hne : b2 ≠ b3 := G3.ne h2
  have h2 := W1.keep hne (ext_at G3.ext h2)
  have hg3 : w0.heap.size ≤ b3 := Nat.le_trans hB.size G3.ge
  have hB := W1.below (ext_trans hB G3.ext) hg3
  have h3 : w.heap[b3]? = some (.cells (s8init.list.map W).toArray 30 (0, 0)) := W1.at_
  clear W1 G3
  refine lnil (hK2 _ _ ?_)
  refine wp_seq_k fun K3 hK3 => ?_
  refine wp_region_lit ?_
  refine ls hk rfl rfl rfl (e_move hk rfl _) fun a hk => ?_
  have hlt3 := heap_lt h3
  refine la hk rfl (a_call hk rfl rfl (c_fn hk rfl ok67) (c67 m ad0 c0 _ (hR.ext hB) hl) ?_)
  rintro e w ⟨adp, cp, rfl, hown, hE⟩
  refine ⟨_, rfl, fun a hk => ?_⟩
  have h2 := ext_at hE h2
  have h3 := ext_at hE h3
  have hB := ext_trans hB hE
  clear hE
  have hnp : ∀ bp op, adp = some ⟨bp, op, none⟩ → bp ≠ b3 := by
    intro bp op e
    subst e
    have := (hown.lt bp rfl).1
    omega
  obtain ⟨_, _, hv, hcp, hRp⟩ := Rd.of_own hown
  cases hv
  have hml := hst_len m
  have hlm : (m ++ padding m.length).length = m.length + 9 + zeros m.length := by rw [List.length_append, length_padding]; omega
  have hz64 : zeros m.length < 64 := Nat.mod_lt _ (by decide)
  generalize hmm : m ++ padding m.length = mm at hk hown hRp hcp hml hlm
  clear hown
  refine ls hk rfl rfl rfl (e_assign hk rfl _) fun a hk => ?_
  refine lnil (hK3 _ _ ?_)
  refine wp_seq_k fun K4 hK4 => ?_
  refine wp_seq_k fun K5 hK5 => ?_
  refine wp_region_lit ?_
  refine ls hk rfl rfl rfl (e_assign hk rfl _) fun a hk => ?_
  refine lnil (hK5 _ _ ?_)
  refine wp_block ?_
  refine loopN (fun n a w => ∃ k : Nat, n = mm.length - 64 * k ∧ 64 * k ≤ mm.length ∧ Kn a 164 [(2, .pointer (some ⟨b2, 0, none⟩)), (3, .pointer (some ⟨b3, 0, none⟩)), (4, .slice adp mm.length cp), (5, I (64 * k : Nat))] ∧ Below w0.heap.size w0 w ∧ (∃ z, w.heap[b2]? = some (.cells z 24 (0, 0)) ∧ z.size = 32) ∧ w.heap[b3]? = some (.cells ((hst k s8init mm).list.map W).toArray 30 (0, 0)) ∧ Rd w adp mm.length cp 1 (mm.map B)) (mm.length) ?_ fun n a w hI => ?_
  · exact ⟨0, rfl, Nat.zero_le _, hk.sub _ ⟨rfl, rfl, rfl, rfl, trivial⟩, hB, ⟨_, h2, hz2⟩, h3, hRp⟩
  clear hB h2 h3 hRp hz2
  obtain ⟨k, rfl, hk64, hk, hB, ⟨z2, h2, hz2⟩, h3, hRp⟩ := hI
  refine wp_seq_k fun K6 hK6 => ?_
  refine wp_seq_k fun K7 hK7 => ?_
  refine wp_region_lit ?_
  refine ls hk rfl rfl rfl (e_move hk rfl _) fun a hk => ?_
  refine ls hk rfl rfl rfl (e_move hk rfl _) fun a hk => ?_
  refine ls hk rfl rfl rfl (e_lenS hk rfl Tryd.underlying22 _) fun a hk => ?_
  refine ls hk rfl rfl rfl (e_lss hk rfl rfl rfl _) fun a hk => ?_
  refine lnil (hK7 _ _ ?_)
  refine cdB hk rfl (fun hb => ?_) (fun hb => ?_)
  · have hlt : 64 * k < mm.length := by have := of_decide_eq_true hb; omega
    have hlt2 : 64 * k + 64 ≤ mm.length := by omega
    obtain ⟨blk, hblk⟩ : ∃ blk, blk = (mm.drop (64 * k)).take 64 := ⟨_, rfl⟩
    have hbl : blk.length = 64 := by rw [hblk]; simp; omega
    obtain ⟨bp, op, rfl, hRb⟩ := sub_rd hRp (64 * k) 64 hlt2 (by decide)
    rw [← hblk] at hRb
    refine wp_skip (hK6 _ _ ?_)
    refine wp_seq_k fun K8 hK8 => ?_
    refine wp_block ?_
    refine wp_seq_k fun K9 hK9 => ?_
    refine wp_region_lit ?_
    refine ls hk rfl rfl rfl (e_move hk rfl _) fun a hk => ?_
    refine ls hk rfl rfl rfl (e_move hk rfl _) fun a hk => ?_
    refine ls hk rfl rfl rfl (e_move hk rfl _) fun a hk => ?_
    refine ls hk rfl rfl rfl (e_add (q := ((64 * k + 64 : Nat) : Int)) hk rfl rfl (by rw [i64 (by omega) (by omega)]; omega) _) fun a hk => ?_
    refine ls hk rfl rfl rfl (e_slSn (64 * k) 64 hk rfl rfl rfl Tryd.underlying22 sz5 (by omega) (by omega) (by have := hRp.2.1; omega) (by have := hRp.2.1; omega) _) fun a hk => ?_
    refine la hk rfl (a_call hk rfl rfl (c_fn hk rfl ok68) (c68 blk bp _ _ _ hbl (by simpa using hRb)) ?_)
    rintro e w ⟨rfl, hE⟩
    refine ⟨_, rfl, fun a hk => ?_⟩
    have h2 := ext_at hE h2
    have h3 := ext_at hE h3
    have hRp := hRp.ext hE
    have hB := ext_trans hB hE
    clear hE hRb
    refine la hk rfl (a_alloc hk rfl zr100 fun a w b6 hk G6 => ?_)
    refine la hk rfl (a_storeB hk rfl rfl (words_one _) (by rw [sz100]; simp [length_sched]) G6.at_ (by simp [Value.cells, length_sched]) fun a w hk W6 => ?_)
    have n26 : b2 ≠ b6 := G6.ne h2
    have n36 : b3 ≠ b6 := G6.ne h3
    have h2 := W6.keep n26 (ext_at G6.ext h2)
    have h3 := W6.keep n36 (ext_at G6.ext h3)
    have hRp := rd_wrote (hRp.ext G6.ext) W6 (by intro _ _ h; cases h; exact rd_fresh hRp (by simp; omega) G6)
    have hg6 : w0.heap.size ≤ b6 := Nat.le_trans hB.size G6.ge
    have hB := W6.below (ext_trans hB G6.ext) hg6
    have h6 := W6.at_
    clear W6 G6
    generalize hs : hst k s8init mm = s at h3
    refine lnil (hK9 _ _ ?_)
    refine wp_seq_k fun K10 hK10 => ?_
    refine wp_region_ok (fun _ => True) [0, 1, 0, 1, 0, 1, 0, 1, 0, 1, 0, 1, 0, 1, 0, 1, 0, 0, 0, 0, 0, 0, 0, 0] mixed ?_
    have hB := hB.drew
    have h2 := ext_at (ext_drew w) h2
    have h3 := ext_at (ext_drew w) h3
    have h6 := ext_at (ext_drew w) h6
    have hRp := hRp.ext (ext_drew w)
    refine d0 0 hk rfl (by kernel_rfl) rfl rfl rfl rfl (fun _ => e_idxA1 0 hk rfl rfl Tryd.underlying30 sz29 rfl (by decide) _) fun a hk => ?_
    refine d1 1 hk rfl (by kernel_rfl) rfl rfl rfl rfl (r_load (v := W s.a) hk rfl Tryd.underlying29 rfl h3 rfl) fun a hk => ?_
    refine d0 2 hk rfl (by kernel_rfl) rfl rfl rfl rfl (fun _ => e_idxA1 1 hk rfl rfl Tryd.underlying30 sz29 rfl (by decide) _) fun a hk => ?_
    refine d1 3 hk rfl (by kernel_rfl) rfl rfl rfl rfl (r_load (v := W s.b) hk rfl Tryd.underlying29 rfl h3 rfl) fun a hk => ?_
    refine d0 4 hk rfl (by kernel_rfl) rfl rfl rfl rfl (fun _ => e_idxA1 2 hk rfl rfl Tryd.underlying30 sz29 rfl (by decide) _) fun a hk => ?_
    refine d1 5 hk rfl (by kernel_rfl) rfl rfl rfl rfl (r_load (v := W s.c) hk rfl Tryd.underlying29 rfl h3 rfl) fun a hk => ?_
    refine d0 6 hk rfl (by kernel_rfl) rfl rfl rfl rfl (fun _ => e_idxA1 3 hk rfl rfl Tryd.underlying30 sz29 rfl (by decide) _) fun a hk => ?_
    refine d1 7 hk rfl (by kernel_rfl) rfl rfl rfl rfl (r_load (v := W s.d) hk rfl Tryd.underlying29 rfl h3 rfl) fun a hk => ?_
    refine d0 8 hk rfl (by kernel_rfl) rfl rfl rfl rfl (fun _ => e_idxA1 4 hk rfl rfl Tryd.underlying30 sz29 rfl (by decide) _) fun a hk => ?_
    refine d1 9 hk rfl (by kernel_rfl) rfl rfl rfl rfl (r_load (v := W s.e) hk rfl Tryd.underlying29 rfl h3 rfl) fun a hk => ?_
    refine d0 10 hk rfl (by kernel_rfl) rfl rfl rfl rfl (fun _ => e_idxA1 5 hk rfl rfl Tryd.underlying30 sz29 rfl (by decide) _) fun a hk => ?_
    refine d1 11 hk rfl (by kernel_rfl) rfl rfl rfl rfl (r_load (v := W s.f) hk rfl Tryd.underlying29 rfl h3 rfl) fun a hk => ?_
    refine d0 12 hk rfl (by kernel_rfl) rfl rfl rfl rfl (fun _ => e_idxA1 6 hk rfl rfl Tryd.underlying30 sz29 rfl (by decide) _) fun a hk => ?_
    refine d1 13 hk rfl (by kernel_rfl) rfl rfl rfl rfl (r_load (v := W s.g) hk rfl Tryd.underlying29 rfl h3 rfl) fun a hk => ?_
    refine d0 14 hk rfl (by kernel_rfl) rfl rfl rfl rfl (fun _ => e_idxA1 7 hk rfl rfl Tryd.underlying30 sz29 rfl (by decide) _) fun a hk => ?_
    refine d1 15 hk rfl (by kernel_rfl) rfl rfl rfl rfl (r_load (v := W s.h) hk rfl Tryd.underlying29 rfl h3 rfl) fun a hk => ?_
    refine d0 16 hk rfl (by kernel_rfl) rfl rfl rfl rfl (fun _ => e_assign hk rfl _) fun a hk => ?_
    refine d0 17 hk rfl (by kernel_rfl) rfl rfl rfl rfl (fun _ => e_assign hk rfl _) fun a hk => ?_
    refine d0 18 hk rfl (by kernel_rfl) rfl rfl rfl rfl (fun _ => e_assign hk rfl _) fun a hk => ?_
    refine d0 19 hk rfl (by kernel_rfl) rfl rfl rfl rfl (fun _ => e_assign hk rfl _) fun a hk => ?_
    refine d0 20 hk rfl (by kernel_rfl) rfl rfl rfl rfl (fun _ => e_assign hk rfl _) fun a hk => ?_
    refine d0 21 hk rfl (by kernel_rfl) rfl rfl rfl rfl (fun _ => e_assign hk rfl _) fun a hk => ?_
    refine d0 22 hk rfl (by kernel_rfl) rfl rfl rfl rfl (fun _ => e_assign hk rfl _) fun a hk => ?_
    refine d0 23 hk rfl (by kernel_rfl) rfl rfl rfl rfl (fun _ => e_assign hk rfl _) fun a hk => ?_
    refine okFin (by kernel_rfl) (hK10 _ _ ?_)
    refine wp_seq_k fun K11 hK11 => ?_
    refine wp_seq_k fun K12 hK12 => ?_
    refine wp_region_lit ?_
    refine ls hk rfl rfl rfl (e_assign hk rfl _) fun a hk => ?_
    refine lnil (hK12 _ _ ?_)
    refine wp_block ?_
    refine loopN (fun n a w => ∃ t : Nat, n = 64 - t ∧ t ≤ 64 ∧ Kn a 164 [(2, .pointer (some ⟨b2, 0, none⟩)), (3, .pointer (some ⟨b3, 0, none⟩)), (4, .slice (some ⟨bp, op, none⟩) mm.length cp), (5, I (64 * k : Nat)), (6, .pointer (some ⟨b6, 0, none⟩)), (7, W (rnds (sched blk 64) s t).a), (8, W (rnds (sched blk 64) s t).b), (9, W (rnds (sched blk 64) s t).c), (10, W (rnds (sched blk 64) s t).d), (11, W (rnds (sched blk 64) s t).e), (12, W (rnds (sched blk 64) s t).f), (13, W (rnds (sched blk 64) s t).g), (14, W (rnds (sched blk 64) s t).h), (15, I t)] ∧ Below w0.heap.size w0 w ∧ (∃ z, w.heap[b2]? = some (.cells z 24 (0, 0)) ∧ z.size = 32) ∧ w.heap[b3]? = some (.cells ((s).list.map W).toArray 30 (0, 0)) ∧ Rd w (some ⟨bp, op, none⟩) mm.length cp 1 (mm.map B) ∧ w.heap[b6]? = some (.cells ((sched blk 64).map W).toArray 100 (0, 0))) (64) ?_ fun n a w hI => ?_
    · exact ⟨0, rfl, by omega, hk.sub _ ⟨rfl, rfl, rfl, rfl, rfl, rfl, rfl, rfl, rfl, rfl, rfl, rfl, rfl, rfl, trivial⟩, hB, ⟨_, h2, hz2⟩, h3, hRp, h6⟩
    clear hB h2 h3 hRp hz2 h6
    obtain ⟨t, rfl, ht, hk, hB, ⟨z2, h2, hz2⟩, h3, hRp, h6⟩ := hI
    generalize hr : rnds (sched blk 64) s t = r at hk
    refine wp_seq_k fun K13 hK13 => ?_
    refine wp_seq_k fun K14 hK14 => ?_
    refine wp_region_lit ?_
    refine ls hk rfl rfl rfl (e_move hk rfl _) fun a hk => ?_
    refine ls hk rfl rfl rfl (e_lss hk rfl rfl rfl _) fun a hk => ?_
    refine lnil (hK14 _ _ ?_)
    refine cdB hk rfl (fun hb => ?_) (fun hb => ?_)
    · have ht1 : t < 64 := by have := of_decide_eq_true hb; omega
      refine wp_skip (hK13 _ _ ?_)
      refine wp_seq_k fun K15 hK15 => ?_
      refine wp_block ?_
      refine wp_seq_k fun K16 hK16 => ?_
      refine wp_region_ok (fun w => w.heap[b6]? = some (.cells ((sched blk 64).map W).toArray 100 (0, 0)) ∧ GR w) [0, 0, 4, 0, 4, 0, 0, 4, 0, 0, 0, 0, 0, 0, 0, 0, 0, 0, 0, 0, 0, 3, 0, 0, 0, 3, 0, 0] mixed ?_
      have hB := hB.drew
      have h2 := ext_at (ext_drew w) h2
      have h3 := ext_at (ext_drew w) h3
      have hRp := hRp.ext (ext_drew w)
      have hS : w.drew.heap[b6]? = some (.cells ((sched blk 64).map W).toArray 100 (0, 0)) ∧ GR w.drew := ⟨ext_at (ext_drew w) h6, hGR.ext hB⟩
      refine d0 0 hk rfl (by kernel_rfl) rfl rfl rfl rfl (fun _ => e_move hk rfl _) fun a hk => ?_
      refine d0 1 hk rfl (by kernel_rfl) rfl rfl rfl rfl (fun _ => e_move hk rfl _) fun a hk => ?_
      refine da4 2 hk rfl (by kernel_rfl) rfl rfl hS (a_call hk rfl rfl (c_fn hk rfl ok69) (c69 r.e 6 (by decide) (by decide) _) ?_)
      rintro e w ⟨rfl, hE⟩
      refine ⟨_, rfl, fun a hk => ⟨⟨ext_at hE hS.1, GR.ext hS.2 hE⟩, ?_⟩⟩
      have hS : w.heap[b6]? = some (.cells ((sched blk 64).map W).toArray 100 (0, 0)) ∧ GR w := ⟨ext_at hE hS.1, GR.ext hS.2 hE⟩
      have h2 := ext_at hE h2
      have h3 := ext_at hE h3
      have hRp := hRp.ext hE
      have hB := ext_trans hB hE
      clear hE
      refine d0 3 hk rfl (by kernel_rfl) rfl rfl rfl rfl (fun _ => e_move hk rfl _) fun a hk => ?_
      refine da4 4 hk rfl (by kernel_rfl) rfl rfl hS (a_call hk rfl rfl (c_fn hk rfl ok69) (c69 r.e 11 (by decide) (by decide) _) ?_)
      rintro e w ⟨rfl, hE⟩
      refine ⟨_, rfl, fun a hk => ⟨⟨ext_at hE hS.1, GR.ext hS.2 hE⟩, ?_⟩⟩
      have hS : w.heap[b6]? = some (.cells ((sched blk 64).map W).toArray 100 (0, 0)) ∧ GR w := ⟨ext_at hE hS.1, GR.ext hS.2 hE⟩
      have h2 := ext_at hE h2
      have h3 := ext_at hE h3
      have hRp := hRp.ext hE
      have hB := ext_trans hB hE
      clear hE
      refine d0 5 hk rfl (by kernel_rfl) rfl rfl rfl rfl (fun _ => e_xor hk rfl rfl (w_xor _ _) _) fun a hk => ?_
      refine d0 6 hk rfl (by kernel_rfl) rfl rfl rfl rfl (fun _ => e_move hk rfl _) fun a hk => ?_
      refine da4 7 hk rfl (by kernel_rfl) rfl rfl hS (a_call hk rfl rfl (c_fn hk rfl ok69) (c69 r.e 25 (by decide) (by decide) _) ?_)
      rintro e w ⟨rfl, hE⟩
      refine ⟨_, rfl, fun a hk => ⟨⟨ext_at hE hS.1, GR.ext hS.2 hE⟩, ?_⟩⟩
      have hS : w.heap[b6]? = some (.cells ((sched blk 64).map W).toArray 100 (0, 0)) ∧ GR w := ⟨ext_at hE hS.1, GR.ext hS.2 hE⟩
      have h2 := ext_at hE h2
      have h3 := ext_at hE h3
      have hRp := hRp.ext hE
      have hB := ext_trans hB hE
      clear hE
      refine d0 8 hk rfl (by kernel_rfl) rfl rfl rfl rfl (fun _ => e_xor hk rfl rfl (w_xor _ _) _) fun a hk => ?_
      refine d0 9 hk rfl (by kernel_rfl) rfl rfl rfl rfl (fun _ => e_add hk rfl rfl (w_add _ _) _) fun a hk => ?_
      refine d0 10 hk rfl (by kernel_rfl) rfl rfl rfl rfl (fun _ => e_move hk rfl _) fun a hk => ?_
      refine d0 11 hk rfl (by kernel_rfl) rfl rfl rfl rfl (fun _ => e_move hk rfl _) fun a hk => ?_
      refine d0 12 hk rfl (by kernel_rfl) rfl rfl rfl rfl (fun _ => e_and hk rfl rfl (w_and _ _) _) fun a hk => ?_
      refine d0 13 hk rfl (by kernel_rfl) rfl rfl rfl rfl (fun _ => e_move hk rfl _) fun a hk => ?_
      refine d0 14 hk rfl (by kernel_rfl) rfl rfl rfl rfl (fun _ => e_xor hk rfl rfl (w_xor r.e 4294967295) _) fun a hk => ?_
      refine d0 15 hk rfl (by kernel_rfl) rfl rfl rfl rfl (fun _ => e_move hk rfl _) fun a hk => ?_
      refine d0 16 hk rfl (by kernel_rfl) rfl rfl rfl rfl (fun _ => e_and hk rfl rfl (w_and _ _) _) fun a hk => ?_
      refine d0 17 hk rfl (by kernel_rfl) rfl rfl rfl rfl (fun _ => e_xor hk rfl rfl (w_xor _ _) _) fun a hk => ?_
      refine d0 18 hk rfl (by kernel_rfl) rfl rfl rfl rfl (fun _ => e_add hk rfl rfl (w_add _ _) _) fun a hk => ?_
      refine d0 19 hk rfl (by kernel_rfl) rfl rfl rfl rfl (fun _ => e_move hk rfl _) fun a hk => ?_
      refine d0 20 hk rfl (by kernel_rfl) rfl rfl rfl rfl (fun _ => e_idxA1 t hk rfl rfl Tryd.underlying100 sz29 rfl (by omega) _) fun a hk => ?_
      refine d3 21 hk rfl (by kernel_rfl) rfl rfl rfl rfl hS (fun w hS => r_load1 (v := W (kc.getD t 0)) hk rfl Tryd.underlying29 rfl (kc_at hS.2 t ht1)) fun a hk => ?_
      refine d0 22 hk rfl (by kernel_rfl) rfl rfl rfl rfl (fun _ => e_add hk rfl rfl (w_add _ _) _) fun a hk => ?_
      refine d0 23 hk rfl (by kernel_rfl) rfl rfl rfl rfl (fun _ => e_move hk rfl _) fun a hk => ?_
      refine d0 24 hk rfl (by kernel_rfl) rfl rfl rfl rfl (fun _ => e_idxA1 t hk rfl rfl Tryd.underlying100 sz29 rfl (by omega) _) fun a hk => ?_
      refine d3 25 hk rfl (by kernel_rfl) rfl rfl rfl rfl hS (fun w hS => r_load (v := W ((sched blk 64).getD t 0)) hk rfl Tryd.underlying29 rfl hS.1 (map_get_w _ t _ ((sched blk 64).getD t 0) (by omega) (by simp [length_sched, ht1]))) fun a hk => ?_
      refine d0 26 hk rfl (by kernel_rfl) rfl rfl rfl rfl (fun _ => e_add hk rfl rfl (w_add _ _) _) fun a hk => ?_
      refine d0 27 hk rfl (by kernel_rfl) rfl rfl rfl rfl (fun _ => e_assign hk rfl _) fun a hk => ?_
      rw [not_eq] at hk
      have hk := hk.sub [(2, .pointer (some ⟨b2, 0, none⟩)), (3, .pointer (some ⟨b3, 0, none⟩)), (4, .slice (some ⟨bp, op, none⟩) mm.length cp), (5, I (64 * k : Nat)), (6, .pointer (some ⟨b6, 0, none⟩)), (7, W r.a), (8, W r.b), (9, W r.c), (10, W r.d), (11, W r.e), (12, W r.f), (13, W r.g), (14, W r.h), (15, I t), (16, W (xOf (kc.getD t 0) ((sched blk 64).getD t 0) r))] ⟨rfl, rfl, rfl, rfl, rfl, rfl, rfl, rfl, rfl, rfl, rfl, rfl, rfl, rfl, rfl, trivial⟩
      have h6 := hS.1
      clear hS
      refine okFin (by kernel_rfl) (hK16 _ _ ?_)
      refine wp_seq_k fun K17 hK17 => ?_
      refine wp_region_lit ?_
      refine ls hk rfl rfl rfl (e_move hk rfl _) fun a hk => ?_
      refine la hk rfl (a_call hk rfl rfl (c_fn hk rfl ok69) (c69 r.a 2 (by decide) (by decide) _) ?_)
      rintro e w ⟨rfl, hE⟩
      refine ⟨_, rfl, fun a hk => ?_⟩
      have h6 := ext_at hE h6
      have h2 := ext_at hE h2
      have h3 := ext_at hE h3
      have hRp := hRp.ext hE
      have hB := ext_trans hB hE
      clear hE
      refine ls hk rfl rfl rfl (e_move hk rfl _) fun a hk => ?_
      refine la hk rfl (a_call hk rfl rfl (c_fn hk rfl ok69) (c69 r.a 13 (by decide) (by decide) _) ?_)
      rintro e w ⟨rfl, hE⟩
      refine ⟨_, rfl, fun a hk => ?_⟩
      have h6 := ext_at hE h6
      have h2 := ext_at hE h2
      have h3 := ext_at hE h3
      have hRp := hRp.ext hE
      have hB := ext_trans hB hE
      clear hE
      refine ls hk rfl rfl rfl (e_xor hk rfl rfl (w_xor _ _) _) fun a hk => ?_
      refine ls hk rfl rfl rfl (e_move hk rfl _) fun a hk => ?_
      refine la hk rfl (a_call hk rfl rfl (c_fn hk rfl ok69) (c69 r.a 22 (by decide) (by decide) _) ?_)
      rintro e w ⟨rfl, hE⟩
      refine ⟨_, rfl, fun a hk => ?_⟩
      have h6 := ext_at hE h6
      have h2 := ext_at hE h2
      have h3 := ext_at hE h3
      have hRp := hRp.ext hE
      have hB := ext_trans hB hE
      clear hE
      refine ls hk rfl rfl rfl (e_xor hk rfl rfl (w_xor _ _) _) fun a hk => ?_
      refine ls hk rfl rfl rfl (e_move hk rfl _) fun a hk => ?_
      refine ls hk rfl rfl rfl (e_move hk rfl _) fun a hk => ?_
      refine ls hk rfl rfl rfl (e_and hk rfl rfl (w_and _ _) _) fun a hk => ?_
      refine ls hk rfl rfl rfl (e_move hk rfl _) fun a hk => ?_
      refine ls hk rfl rfl rfl (e_move hk rfl _) fun a hk => ?_
      refine ls hk rfl rfl rfl (e_and hk rfl rfl (w_and _ _) _) fun a hk => ?_
      refine ls hk rfl rfl rfl (e_xor hk rfl rfl (w_xor _ _) _) fun a hk => ?_
      refine ls hk rfl rfl rfl (e_move hk rfl _) fun a hk => ?_
      refine ls hk rfl rfl rfl (e_move hk rfl _) fun a hk => ?_
      refine ls hk rfl rfl rfl (e_and hk rfl rfl (w_and _ _) _) fun a hk => ?_
      refine ls hk rfl rfl rfl (e_xor hk rfl rfl (w_xor _ _) _) fun a hk => ?_
      refine ls hk rfl rfl rfl (e_add hk rfl rfl (w_add _ _) _) fun a hk => ?_
      refine ls hk rfl rfl rfl (e_assign hk rfl _) fun a hk => ?_
      have hk := hk.sub [(2, .pointer (some ⟨b2, 0, none⟩)), (3, .pointer (some ⟨b3, 0, none⟩)), (4, .slice (some ⟨bp, op, none⟩) mm.length cp), (5, I (64 * k : Nat)), (6, .pointer (some ⟨b6, 0, none⟩)), (7, W r.a), (8, W r.b), (9, W r.c), (10, W r.d), (11, W r.e), (12, W r.f), (13, W r.g), (14, W r.h), (15, I t), (16, W (xOf (kc.getD t 0) ((sched blk 64).getD t 0) r)), (17, W (yOf' r))] ⟨rfl, rfl, rfl, rfl, rfl, rfl, rfl, rfl, rfl, rfl, rfl, rfl, rfl, rfl, rfl, rfl, trivial⟩
      refine lnil (hK17 _ _ ?_)
      refine wp_seq_k fun K18 hK18 => ?_
      refine wp_region_lit ?_
      refine ls hk rfl rfl rfl (e_move hk rfl _) fun a hk => ?_
      refine ls hk rfl rfl rfl (e_assign hk rfl _) fun a hk => ?_
      refine lnil (hK18 _ _ ?_)
      refine wp_seq_k fun K19 hK19 => ?_
      refine wp_region_lit ?_
      refine ls hk rfl rfl rfl (e_move hk rfl _) fun a hk => ?_
      refine ls hk rfl rfl rfl (e_assign hk rfl _) fun a hk => ?_
      refine lnil (hK19 _ _ ?_)
      refine wp_seq_k fun K20 hK20 => ?_
      refine wp_region_lit ?_
      refine ls hk rfl rfl rfl (e_move hk rfl _) fun a hk => ?_
      refine ls hk rfl rfl rfl (e_assign hk rfl _) fun a hk => ?_
      refine lnil (hK20 _ _ ?_)
      refine wp_seq_k fun K21 hK21 => ?_
      refine wp_region_lit ?_
      refine ls hk rfl rfl rfl (e_move hk rfl _) fun a hk => ?_
      refine ls hk rfl rfl rfl (e_move hk rfl _) fun a hk => ?_
      refine ls hk rfl rfl rfl (e_add hk rfl rfl (w_add _ _) _) fun a hk => ?_
      refine ls hk rfl rfl rfl (e_assign hk rfl _) fun a hk => ?_
      refine lnil (hK21 _ _ ?_)
      refine wp_seq_k fun K22 hK22 => ?_
      refine wp_region_lit ?_
      refine ls hk rfl rfl rfl (e_move hk rfl _) fun a hk => ?_
      refine ls hk rfl rfl rfl (e_assign hk rfl _) fun a hk => ?_
      refine lnil (hK22 _ _ ?_)
      refine wp_seq_k fun K23 hK23 => ?_
      refine wp_region_lit ?_
      refine ls hk rfl rfl rfl (e_move hk rfl _) fun a hk => ?_
      refine ls hk rfl rfl rfl (e_assign hk rfl _) fun a hk => ?_
      refine lnil (hK23 _ _ ?_)
      refine wp_seq_k fun K24 hK24 => ?_
      refine wp_region_lit ?_
      refine ls hk rfl rfl rfl (e_move hk rfl _) fun a hk => ?_
      refine ls hk rfl rfl rfl (e_assign hk rfl _) fun a hk => ?_
      refine lnil (hK24 _ _ ?_)
      refine wp_region_lit ?_
      refine ls hk rfl rfl rfl (e_move hk rfl _) fun a hk => ?_
      refine ls hk rfl rfl rfl (e_move hk rfl _) fun a hk => ?_
      refine ls hk rfl rfl rfl (e_add hk rfl rfl (w_add _ _) _) fun a hk => ?_
      refine ls hk rfl rfl rfl (e_assign hk rfl _) fun a hk => ?_
      have hk := hk.sub [(2, .pointer (some ⟨b2, 0, none⟩)), (3, .pointer (some ⟨b3, 0, none⟩)), (4, .slice (some ⟨bp, op, none⟩) mm.length cp), (5, I (64 * k : Nat)), (6, .pointer (some ⟨b6, 0, none⟩)), (7, W (rnd (kc.getD t 0) ((sched blk 64).getD t 0) r).a), (8, W (rnd (kc.getD t 0) ((sched blk 64).getD t 0) r).b), (9, W (rnd (kc.getD t 0) ((sched blk 64).getD t 0) r).c), (10, W (rnd (kc.getD t 0) ((sched blk 64).getD t 0) r).d), (11, W (rnd (kc.getD t 0) ((sched blk 64).getD t 0) r).e), (12, W (rnd (kc.getD t 0) ((sched blk 64).getD t 0) r).f), (13, W (rnd (kc.getD t 0) ((sched blk 64).getD t 0) r).g), (14, W (rnd (kc.getD t 0) ((sched blk 64).getD t 0) r).h), (15, I t)] ⟨rfl, rfl, rfl, rfl, rfl, rfl, rfl, rfl, rfl, rfl, rfl, rfl, rfl, rfl, trivial⟩
      rw [← hr] at hk
      refine lnil (hK15 _ _ ?_)
      refine wp_region_lit ?_
      refine ls hk rfl rfl rfl (e_move hk rfl _) fun a hk => ?_
      refine ls hk rfl rfl rfl (e_add hk rfl rfl (i64 (by omega) (by omega)) _) fun a hk => ?_
      refine ls hk rfl rfl rfl (e_assign hk rfl _) fun a hk => ?_
      refine lnil (show ∃ m : Nat, m < _ ∧ _ from ⟨64 - (t + 1), by omega, t + 1, rfl, by omega, hk.sub _ ⟨rfl, rfl, rfl, rfl, rfl, rfl, rfl, rfl, rfl, rfl, rfl, rfl, rfl, rfl, trivial⟩, hB, ⟨_, h2, hz2⟩, h3, hRp, h6⟩)
    · have ht1 : t = 64 := by have := of_decide_eq_false hb; omega
      subst ht1
      refine wp_exit (hK11 _ _ ?_)
      refine wp_region_lit ?_
      refine ls hk rfl rfl rfl (e_idxA1 0 hk rfl rfl Tryd.underlying30 sz29 rfl (by decide) _) fun a hk => ?_
      refine ls hk rfl rfl rfl (r_load (v := W s.a) hk rfl Tryd.underlying29 rfl h3 rfl) fun a hk => ?_
      refine ls hk rfl rfl rfl (e_move hk rfl _) fun a hk => ?_
      refine ls hk rfl rfl rfl (e_add hk rfl rfl (w_add _ _) _) fun a hk => ?_
      refine ls hk rfl rfl rfl (e_idxA1 1 hk rfl rfl Tryd.underlying30 sz29 rfl (by decide) _) fun a hk => ?_
      refine ls hk rfl rfl rfl (r_load (v := W s.b) hk rfl Tryd.underlying29 rfl h3 rfl) fun a hk => ?_
      refine ls hk rfl rfl rfl (e_move hk rfl _) fun a hk => ?_
      refine ls hk rfl rfl rfl (e_add hk rfl rfl (w_add _ _) _) fun a hk => ?_
      refine ls hk rfl rfl rfl (e_idxA1 2 hk rfl rfl Tryd.underlying30 sz29 rfl (by decide) _) fun a hk => ?_
      refine ls hk rfl rfl rfl (r_load (v := W s.c) hk rfl Tryd.underlying29 rfl h3 rfl) fun a hk => ?_
      refine ls hk rfl rfl rfl (e_move hk rfl _) fun a hk => ?_
      refine ls hk rfl rfl rfl (e_add hk rfl rfl (w_add _ _) _) fun a hk => ?_
      refine ls hk rfl rfl rfl (e_idxA1 3 hk rfl rfl Tryd.underlying30 sz29 rfl (by decide) _) fun a hk => ?_
      refine ls hk rfl rfl rfl (r_load (v := W s.d) hk rfl Tryd.underlying29 rfl h3 rfl) fun a hk => ?_
      refine ls hk rfl rfl rfl (e_move hk rfl _) fun a hk => ?_
      refine ls hk rfl rfl rfl (e_add hk rfl rfl (w_add _ _) _) fun a hk => ?_
      refine ls hk rfl rfl rfl (e_idxA1 4 hk rfl rfl Tryd.underlying30 sz29 rfl (by decide) _) fun a hk => ?_
      refine ls hk rfl rfl rfl (r_load (v := W s.e) hk rfl Tryd.underlying29 rfl h3 rfl) fun a hk => ?_
      refine ls hk rfl rfl rfl (e_move hk rfl _) fun a hk => ?_
      refine ls hk rfl rfl rfl (e_add hk rfl rfl (w_add _ _) _) fun a hk => ?_
      refine ls hk rfl rfl rfl (e_idxA1 5 hk rfl rfl Tryd.underlying30 sz29 rfl (by decide) _) fun a hk => ?_
      refine ls hk rfl rfl rfl (r_load (v := W s.f) hk rfl Tryd.underlying29 rfl h3 rfl) fun a hk => ?_
      refine ls hk rfl rfl rfl (e_move hk rfl _) fun a hk => ?_
      refine ls hk rfl rfl rfl (e_add hk rfl rfl (w_add _ _) _) fun a hk => ?_
      refine ls hk rfl rfl rfl (e_idxA1 6 hk rfl rfl Tryd.underlying30 sz29 rfl (by decide) _) fun a hk => ?_
      refine ls hk rfl rfl rfl (r_load (v := W s.g) hk rfl Tryd.underlying29 rfl h3 rfl) fun a hk => ?_
      refine ls hk rfl rfl rfl (e_move hk rfl _) fun a hk => ?_
      refine ls hk rfl rfl rfl (e_add hk rfl rfl (w_add _ _) _) fun a hk => ?_
      refine ls hk rfl rfl rfl (e_idxA1 7 hk rfl rfl Tryd.underlying30 sz29 rfl (by decide) _) fun a hk => ?_
      refine ls hk rfl rfl rfl (r_load (v := W s.h) hk rfl Tryd.underlying29 rfl h3 rfl) fun a hk => ?_
      refine ls hk rfl rfl rfl (e_move hk rfl _) fun a hk => ?_
      refine ls hk rfl rfl rfl (e_add hk rfl rfl (w_add _ _) _) fun a hk => ?_
      generalize hya : s.a + r.a = ya at hk
      generalize hyb : s.b + r.b = yb at hk
      generalize hyc : s.c + r.c = yc at hk
      generalize hyd : s.d + r.d = yd at hk
      generalize hye : s.e + r.e = ye at hk
      generalize hyf : s.f + r.f = yf at hk
      generalize hyg : s.g + r.g = yg at hk
      generalize hyh : s.h + r.h = yh at hk
      refine ls hk rfl rfl rfl (e_buildA (cells := #[W ya, W yb, W yc, W yd, W ye, W yf, W yg, W yh]) hk rfl zr30 Tryd.underlying30 sz29 (fill8 _ _ _ _ _ _ _ _ rfl rfl rfl rfl rfl rfl rfl rfl) _) fun a hk => ?_
      refine la hk rfl (a_storeB hk rfl rfl (words_one [ya, yb, yc, yd, ye, yf, yg, yh]) sz30 h3 rfl fun a w hk W21 => ?_)
      have hB := W21.below hB hg3
      have h2 := W21.keep hne h2
      have hRp := rd_wrote hRp W21 (by intro _ _ h; cases h; exact hnp _ _ rfl)
      have h3 : w.heap[b3]? = some (.cells ((hst (k + 1) s8init mm).list.map W).toArray 30 (0, 0)) := by
        have h := W21.at_
        rw [hst_succ, ← hblk, hs, compress, hr, S8.add, hya, hyb, hyc, hyd, hye, hyf, hyg, hyh]; exact h
      clear W21
      refine lnil (hK8 _ _ ?_)
      refine wp_region_lit ?_
      refine ls hk rfl rfl rfl (e_move hk rfl _) fun a hk => ?_
      refine ls hk rfl rfl rfl (e_add (q := ((64 * (k + 1) : Nat) : Int)) hk rfl rfl (by rw [i64 (by omega) (by omega)]; omega) _) fun a hk => ?_
      refine ls hk rfl rfl rfl (e_assign hk rfl _) fun a hk => ?_
      refine lnil (show ∃ m : Nat, m < _ ∧ _ from ⟨mm.length - 64 * (k + 1), by omega, k + 1, rfl, by omega, hk.sub _ ⟨rfl, rfl, rfl, rfl, trivial⟩, hB, ⟨_, h2, hz2⟩, h3, hRp⟩)
  · have hge : 64 * k = mm.length := by have := of_decide_eq_false hb; omega
    have hkq : mm.length / 64 = k := by omega
    generalize hs : hst k s8init mm = s at h3
    refine wp_exit (hK4 _ _ ?_)
    refine wp_seq_k fun K25 hK25 => ?_
    refine wp_region_lit ?_
    refine la hk rfl (a_alloc hk rfl zr24 fun a w b18 hk G18 => ?_)
    have n218 : b2 ≠ b18 := G18.ne h2
    have n318 : b3 ≠ b18 := G18.ne h3
    have hg18 : w0.heap.size ≤ b18 := Nat.le_trans hB.size G18.ge
    have hB := ext_trans hB G18.ext
    have h2 := ext_at G18.ext h2
    have h3 := ext_at G18.ext h3
    have h18 := G18.at_
    clear G18
    refine lnil (hK25 _ _ ?_)
    refine wp_seq_k fun K26 hK26 => ?_
    refine wp_seq_k fun K27 hK27 => ?_
    refine wp_region_lit ?_
    refine ls hk rfl rfl rfl (e_assign hk rfl _) fun a hk => ?_
    refine lnil (hK27 _ _ ?_)
    refine wp_block ?_
    refine loopN (fun n a w => ∃ i : Nat, n = 32 - i ∧ i ≤ 32 ∧ Kn a 164 [(2, .pointer (some ⟨b2, 0, none⟩)), (3, .pointer (some ⟨b3, 0, none⟩)), (18, .pointer (some ⟨b18, 0, none⟩)), (19, I i)] ∧ Below w0.heap.size w0 w ∧ (∃ z, w.heap[b2]? = some (.cells z 24 (0, 0)) ∧ z.size = 32) ∧ w.heap[b3]? = some (.cells ((s).list.map W).toArray 30 (0, 0)) ∧ w.heap[b18]? = some (.cells (((out32 s).take i ++ List.replicate (32 - i) 0).map B).toArray 24 (0, 0))) (32) ?_ fun n a w hI => ?_
    · exact ⟨0, rfl, by omega, hk.sub _ ⟨rfl, rfl, rfl, rfl, trivial⟩, hB, ⟨_, h2, hz2⟩, h3, h18⟩
    clear hB h2 h3 h18 hz2
    obtain ⟨i, rfl, hi, hk, hB, ⟨z2, h2, hz2⟩, h3, h18⟩ := hI
    refine wp_seq_k fun K28 hK28 => ?_
    refine wp_seq_k fun K29 hK29 => ?_
    refine wp_region_lit ?_
    refine ls hk rfl rfl rfl (e_move hk rfl _) fun a hk => ?_
    refine ls hk rfl rfl rfl (e_lss hk rfl rfl rfl _) fun a hk => ?_
    refine lnil (hK29 _ _ ?_)
    refine cdB hk rfl (fun hb => ?_) (fun hb => ?_)
    · have hi32 : i < 32 := by have := of_decide_eq_true hb; omega
      refine wp_skip (hK28 _ _ ?_)
      refine wp_seq_k fun K30 hK30 => ?_
      refine wp_block ?_
      refine wp_region_lit ?_
      refine ls hk rfl rfl rfl (e_move hk rfl _) fun a hk => ?_
      refine ls hk rfl rfl rfl (e_move hk rfl _) fun a hk => ?_
      refine ls hk rfl rfl rfl (e_quo (q := ((i / 4 : Nat) : Int)) hk rfl rfl (by decide) (by rw [show ((i : Int)).tdiv 4 = ((i / 4 : Nat) : Int) from i_quo i 4, i64 (by omega) (by omega)]) _) fun a hk => ?_
      refine ls hk rfl rfl rfl (e_idxA1 (i / 4) hk rfl rfl Tryd.underlying30 sz29 rfl (by omega) _) fun a hk => ?_
      refine ls hk rfl rfl rfl (r_load (v := W (s.list.getD (i / 4) 0)) hk rfl Tryd.underlying29 rfl h3 (list_at _ _ (by omega))) fun a hk => ?_
      refine ls hk rfl rfl rfl (e_move hk rfl _) fun a hk => ?_
      refine ls hk rfl rfl rfl (e_rem (q := ((i % 4 : Nat) : Int)) hk rfl rfl (by decide) (i_rem i 4) _) fun a hk => ?_
      refine ls hk rfl rfl rfl (e_mul (q := ((8 * (i % 4) : Nat) : Int)) hk rfl rfl (by rw [i64 (by omega) (by omega)]; omega) _) fun a hk => ?_
      refine ls hk rfl rfl rfl (e_sub (q := ((24 - 8 * (i % 4) : Nat) : Int)) hk rfl rfl (by rw [i64 (by omega) (by omega)]; omega) _) fun a hk => ?_
      refine ls hk rfl rfl rfl (e_shr hk rfl rfl (by omega) (w_shr _ (24 - 8 * (i % 4)) (by omega)) _) fun a hk => ?_
      refine ls hk rfl rfl rfl (e_conv hk rfl Tryd.underlying29 Tryd.underlying5 (w_b _) _) fun a hk => ?_
      refine ls hk rfl rfl rfl (e_idxA1 i hk rfl rfl Tryd.underlying24 sz5 rfl (by omega) _) fun a hk => ?_
      refine la hk rfl (a_store (v := B (outB s i)) hk rfl rfl rfl sz5 h18 (by simp [length_out32]; omega) fun a w hk W15 => ?_)
      have hB := W15.below hB hg18
      have h2 := W15.keep n218 h2
      have h3 := W15.keep n318 h3
      have h18 : w.heap[b18]? = some (.cells (((out32 s).take (i + 1) ++ List.replicate (32 - (i + 1)) 0).map B).toArray 24 (0, 0)) := by
        have h := W15.at_
        rw [show 32 - i = (31 - i) + 1 by omega, List.replicate_succ, show (out32 s).take i ++ 0 :: List.replicate (31 - i) 0 = (out32 s).take i ++ [0] ++ List.replicate (31 - i) 0 by simp,
          bytes_set _ _ _ _ _ (by simp [length_out32]; omega)] at h
        rw [h, out32_take _ _ hi32, show 32 - (i + 1) = 31 - i by omega]
      clear W15
      refine lnil (hK30 _ _ ?_)
      refine wp_region_lit ?_
      refine ls hk rfl rfl rfl (e_move hk rfl _) fun a hk => ?_
      refine ls hk rfl rfl rfl (e_add hk rfl rfl (i64 (by omega) (by omega)) _) fun a hk => ?_
      refine ls hk rfl rfl rfl (e_assign hk rfl _) fun a hk => ?_
      refine lnil (show ∃ m : Nat, m < _ ∧ _ from ⟨32 - (i + 1), by omega, i + 1, rfl, by omega, hk.sub _ ⟨rfl, rfl, rfl, rfl, trivial⟩, hB, ⟨_, h2, hz2⟩, h3, h18⟩)
    · have hi32 : i = 32 := by have := of_decide_eq_false hb; omega
      subst hi32
      rw [List.take_of_length_le (by rw [length_out32]; omega), Nat.sub_self, List.replicate_zero, List.append_nil] at h18
      refine wp_exit (hK26 _ _ ?_)
      refine wp_seq_k fun K31 hK31 => ?_
      refine wp_region_lit ?_
      refine ls hk rfl rfl rfl (r_loadB hk rfl h18 Tryd.underlying24 rfl (by rw [sz24]; simp [length_out32])) fun a hk => ?_
      refine la hk rfl (a_storeB hk rfl rfl (bytes_oneA _) (by rw [sz24]; simp [length_out32]) h2 (by simp [length_out32, hz2]) fun a w hk W27 => ?_)
      refine lnil (hK31 _ _ ?_)
      refine wp_ret ?_
      exact retA hk rfl rfl W27.at_ Tryd.underlying24 rfl (by rw [sz24]; simp [length_out32]) ⟨by rw [← hs, ← hkq, ← hmm]; rfl, W27.below hB hg2⟩

end Go.Proofs.YtidfbboalbchiaaDoor

namespace Go.Proofs.YtidfbboalbchiaaDoor
open Go Go.RowKit

theorem fill_get (k : List UInt8) (i : Nat) (hi : i < (fill64 k).length) : (fill64 k)[i] = k.getD i 0 := by
  unfold fill64 at hi ⊢
  rw [List.getElem_append]
  split
  · rename_i h; simp [h]
  · rename_i h; simp [List.getElem?_eq_none (Nat.le_of_not_lt h)]
theorem take_map (p : List UInt8) (x : UInt8) (i : Nat) (h : i < p.length) : (p.take (i + 1)).map (· ^^^ x) = (p.take i).map (· ^^^ x) ++ [p[i] ^^^ x] := by
  rw [List.take_add_one, List.getElem?_eq_getElem h]
  simp only [Option.toList_some, List.map_append, List.map_cons, List.map_nil]

set_option maxRecDepth 4000 in
set_option maxHeartbeats 1000000 in
theorem c72 (key : List UInt8) (x : UInt8) (w0 : World) (hGR : GR w0) (hl : key.length ≤ 1000000000) :
    Calls Tryd.prog 72 #[Str key, B x] w0 fun e w' => ∃ ad c, e = .returned (.slice ad 64 c) ∧ w'.ownsRow w0.heap.size 5 1 (.slice ad 64 c) 64 ((key64 key x).map B) ∧ Ext w0 w' := by
  refine start 35 Tryd.func72 rfl rfl rfl fun a hk => ?_
  refine wp_seq_k fun K1 hK1 => ?_
  refine wp_region_lit ?_
  refine ls hk rfl rfl rfl (e_assign hk rfl _) fun a hk => ?_
  have hB : Ext w0 w0 := Below.refl _ _
  refine lnil (hK1 _ _ ?_)
  refine wp_seq_k fun K2 hK2 => ?_
  refine wp_region_lit ?_
  refine ls hk rfl rfl rfl (e_move hk rfl _) fun a hk => ?_
  refine ls hk rfl rfl rfl (e_assign hk rfl _) fun a hk => ?_
  refine lnil (hK2 _ _ ?_)
  refine wp_seq_k fun K3 hK3 => ?_
  have hJ3 : ∀ (a : Act) (w : World), Kn a 35 [(1, B x), (5, Str (if key.length > 64 then sha key else key))] ∧ Ext w0 w → K3 a w := by
    intro a w hJ
    refine hK3 _ _ ?_
    refine wp_seq_k fun K4 hK4 => ?_
    generalize hke : (if key.length > 64 then sha key else key) = k₁ at hJ
    have hk1 : k₁.length ≤ 64 := by rw [← hke]; exact k1_le key
    clear hB
    obtain ⟨hk, hB⟩ := hJ
    have hp64 : (fill64 k₁).length = 64 := length_fill64 k₁ hk1
    refine wp_region_lit ?_
    refine ls hk rfl rfl rfl (e_assign hk rfl _) fun a hk => ?_
    refine lnil (hK4 _ _ ?_)
    refine wp_seq_k fun K5 hK5 => ?_
    refine wp_seq_k fun K6 hK6 => ?_
    refine wp_region_lit ?_
    refine ls hk rfl rfl rfl (e_assign hk rfl _) fun a hk => ?_
    refine lnil (hK6 _ _ ?_)
    refine wp_block ?_
    refine loopN (fun n a w => ∃ (i : Nat) (ad : Option Addr) (c : Nat), n = 64 - i ∧ i ≤ 64 ∧ Kn a 35 [(1, B x), (5, Str k₁), (6, .slice ad i c), (7, I i)] ∧ Ext w0 w ∧ w0.heap.size ≤ w.heap.size ∧ w.ownsRow w0.heap.size 5 1 (.slice ad i c) i (((fill64 k₁).take i).map (· ^^^ x) |>.map B)) (64) ?_ fun n a w hI => ?_
    · exact ⟨0, none, 0, rfl, by omega, hk.sub _ ⟨rfl, rfl, rfl, rfl, trivial⟩, hB, hB.size, own_nil⟩
    clear hB
    obtain ⟨i, ad, c, rfl, hi, hk, hB, hCC, hown⟩ := hI
    refine wp_seq_k fun K7 hK7 => ?_
    refine wp_seq_k fun K8 hK8 => ?_
    refine wp_region_lit ?_
    refine ls hk rfl rfl rfl (e_move hk rfl _) fun a hk => ?_
    refine ls hk rfl rfl rfl (e_lss hk rfl rfl rfl _) fun a hk => ?_
    refine lnil (hK8 _ _ ?_)
    refine cdB hk rfl (fun hb => ?_) (fun hb => ?_)
    · have hil : i < 64 := by have := of_decide_eq_true hb; omega
      have hif : i < (fill64 k₁).length := by omega
      refine wp_skip (hK7 _ _ ?_)
      refine wp_seq_k fun K9 hK9 => ?_
      refine wp_block ?_
      refine wp_seq_k fun K10 hK10 => ?_
      refine wp_region_lit ?_
      refine ls hk rfl rfl rfl (e_assign hk rfl _) fun a hk => ?_
      refine lnil (hK10 _ _ ?_)
      refine wp_seq_k fun K11 hK11 => ?_
      have hJ11 : ∀ (a : Act) (w : World), Kn a 35 [(1, B x), (5, Str k₁), (6, .slice ad i c), (7, I i), (8, B (fill64 k₁)[i])] ∧ Ext w0 w ∧ w0.heap.size ≤ w.heap.size ∧ w.ownsRow w0.heap.size 5 1 (.slice ad i c) i (((fill64 k₁).take i).map (· ^^^ x) |>.map B) → K11 a w := by
        intro a w ⟨hk, hB, hCC, hown⟩
        refine hK11 _ _ ?_
        refine wp_region_lit ?_
        refine ls hk rfl rfl rfl (e_move hk rfl _) fun a hk => ?_
        refine ls hk rfl rfl rfl (e_move hk rfl _) fun a hk => ?_
        refine ls hk rfl rfl rfl (e_move hk rfl _) fun a hk => ?_
        refine ls hk rfl rfl rfl (e_xor hk rfl rfl (b_xor _ _) _) fun a hk => ?_
        refine la hk rfl (a_lit (cells := #[B ((fill64 k₁)[i] ^^^ x)]) (zv := .int .u8 0) (sz := 1) (by_ := 1) hk rfl rfl Tryd.underlying22 el5 (by decide) (by decide) (lit1 _ _ rfl) rfl fun a w bl hk GL => ?_)
        have hB := ext_trans hB GL.ext
        have hown := own_ext hown GL.ext
        have hRd := lit_byte _ GL
        have hCC := Nat.le_trans hCC GL.ext.size
        clear GL
        refine la hk rfl (a_app hk rfl rfl hown rfl hRd (bytes_one _) Tryd.underlying22 el5 rfl (by decide) (by omega) (by omega) hCC fun a w v hk hown' hKp => ?_)
        have hB := kept_below hKp hB hown (Nat.le_refl _) hCC
        have hCC := Nat.le_trans hCC hKp.size
        clear hown hRd hKp
        obtain ⟨ad, c, rfl, _, _⟩ := Rd.of_own hown'
        have hown : w.ownsRow w0.heap.size 5 1 (.slice ad (i + 1) c) (i + 1) ((((fill64 k₁).take (i + 1)).map (· ^^^ x)).map B) := by
          rw [take_map _ _ _ hif, List.map_append]; exact hown'
        clear hown'
        refine ls hk rfl rfl rfl (e_assign hk rfl _) fun a hk => ?_
        refine lnil (hK9 _ _ ?_)
        refine wp_region_lit ?_
        refine ls hk rfl rfl rfl (e_move hk rfl _) fun a hk => ?_
        refine ls hk rfl rfl rfl (e_add hk rfl rfl (i64 (by omega) (by omega)) _) fun a hk => ?_
        refine ls hk rfl rfl rfl (e_assign hk rfl _) fun a hk => ?_
        refine lnil (show ∃ m : Nat, m < _ ∧ _ from ⟨64 - (i + 1), by omega, i + 1, _, _, rfl, by omega, hk.sub _ ⟨rfl, rfl, rfl, rfl, trivial⟩, hB, hCC, hown⟩)
      refine wp_seq_k fun K12 hK12 => ?_
      refine wp_region_lit ?_
      refine ls hk rfl rfl rfl (e_move hk rfl _) fun a hk => ?_
      refine ls hk rfl rfl rfl (e_move hk rfl _) fun a hk => ?_
      refine ls hk rfl rfl rfl (e_lenStr hk rfl Tryd.underlying9 _) fun a hk => ?_
      refine ls hk rfl rfl rfl (e_lss hk rfl rfl rfl _) fun a hk => ?_
      refine lnil (hK12 _ _ ?_)
      refine cdB hk rfl (fun hb => ?_) (fun hb => ?_)
      · have hlt : i < k₁.length := by have := of_decide_eq_true hb; omega
        refine wp_region_lit ?_
        refine ls hk rfl rfl rfl (e_move hk rfl _) fun a hk => ?_
        refine ls hk rfl rfl rfl (e_move hk rfl _) fun a hk => ?_
        refine ls hk rfl rfl rfl (e_idxStr (c := (fill64 k₁)[i]) hk rfl rfl Tryd.underlying9 (by omega) (by rw [fill_get k₁ i hif]; simp [hlt]) _) fun a hk => ?_
        refine ls hk rfl rfl rfl (e_assign hk rfl _) fun a hk => ?_
        refine lnil (hJ11 _ _ ⟨by first | exact hk.sub _ ⟨rfl, rfl, rfl, rfl, rfl, trivial⟩ | (rw [hv]; exact hk.sub _ ⟨rfl, rfl, rfl, rfl, rfl, trivial⟩), hB, hCC, hown⟩)
      · have hge : ¬ i < k₁.length := by have := of_decide_eq_false hb; omega
        have hv : (fill64 k₁)[i] = 0 := by rw [fill_get k₁ i hif]; simp [List.getElem?_eq_none (Nat.le_of_not_lt hge)]
        refine wp_skip (hJ11 _ _ ⟨by first | exact hk.sub _ ⟨rfl, rfl, rfl, rfl, rfl, trivial⟩ | (rw [hv]; exact hk.sub _ ⟨rfl, rfl, rfl, rfl, rfl, trivial⟩), hB, hCC, hown⟩)
    · have hil : i = 64 := by have := of_decide_eq_false hb; omega
      subst hil
      rw [List.take_of_length_le (by omega)] at hown
      refine wp_exit (hK5 _ _ ?_)
      refine wp_seq_k fun K13 hK13 => ?_
      refine wp_region_lit ?_
      refine ls hk rfl rfl rfl (e_move hk rfl _) fun a hk => ?_
      refine ls hk rfl rfl rfl (e_assign hk rfl _) fun a hk => ?_
      refine lnil (hK13 _ _ ?_)
      refine wp_ret ?_
      exact ret1 hk rfl rfl ⟨ad, c, rfl, by unfold key64; rw [hke]; exact hown, hB⟩
  refine wp_seq_k fun K14 hK14 => ?_
  refine wp_region_lit ?_
  refine ls hk rfl rfl rfl (e_move hk rfl _) fun a hk => ?_
  refine ls hk rfl rfl rfl (e_lenStr hk rfl Tryd.underlying9 _) fun a hk => ?_
  refine ls hk rfl rfl rfl (e_gtr hk rfl rfl rfl _) fun a hk => ?_
  refine lnil (hK14 _ _ ?_)
  refine cdB hk rfl (fun hb => ?_) (fun hb => ?_)
  · have hlong : key.length > 64 := by have := of_decide_eq_true hb; omega
    refine wp_region_lit ?_
    refine ls hk rfl rfl rfl (e_move hk rfl _) fun a hk => ?_
    refine la hk rfl (a_bytes hk rfl rfl Tryd.underlying9 Tryd.underlying22 Tryd.underlying5 fun a w bb cc hk hgb hE hRb => ?_)
    have hB := ext_trans hB hE
    refine la hk rfl (a_call hk rfl rfl (c_fn hk rfl ok24) (c24 key _ _ _ hRb (hGR.ext hB) (by omega)) ?_)
    rintro e w ⟨rfl, hE⟩
    refine ⟨_, rfl, fun a hk => ?_⟩
    have hB := ext_trans hB hE
    refine la hk rfl (a_call hk rfl rfl (c_fn hk rfl ok32) (c32 (sha key) _ (length_sha _)) ?_)
    rintro e w ⟨rfl, hE⟩
    refine ⟨_, rfl, fun a hk => ?_⟩
    have hB := ext_trans hB hE
    refine ls hk rfl rfl rfl (e_assign hk rfl _) fun a hk => ?_
    refine lnil (hJ3 _ _ ⟨by first | (rw [if_pos hlong]; exact hk.sub _ ⟨rfl, rfl, trivial⟩) | (rw [if_neg hshort]; exact hk.sub _ ⟨rfl, rfl, trivial⟩), hB⟩)
  · have hshort : ¬ key.length > 64 := by have := of_decide_eq_false hb; omega
    refine wp_skip (hJ3 _ _ ⟨by first | (rw [if_pos hlong]; exact hk.sub _ ⟨rfl, rfl, trivial⟩) | (rw [if_neg hshort]; exact hk.sub _ ⟨rfl, rfl, trivial⟩), hB⟩)

theorem length_key64 (key : List UInt8) (x : UInt8) : (key64 key x).length = 64 := by
  show (pad64 _ x).length = 64
  exact length_pad64 _ _ (k1_le key)

set_option maxRecDepth 4000 in
set_option maxHeartbeats 1000000 in
theorem c31 (key text : List UInt8) (w0 : World) (hGR : GR w0) (hl : key.length ≤ 100000000) (ht : text.length ≤ 100000000) :
    Calls Tryd.prog 31 #[Str key, Str text] w0 fun e w' => e = .returned (Str (mac key text)) ∧ Ext w0 w' := by
  refine start 22 Tryd.func31 rfl rfl rfl fun a hk => ?_
  refine wp_seq_k fun K1 hK1 => ?_
  refine wp_region_lit ?_
  refine ls hk rfl rfl rfl (e_assign hk rfl _) fun a hk => ?_
  have hB : Ext w0 w0 := Below.refl _ _
  refine lnil (hK1 _ _ ?_)
  refine wp_seq_k fun K2 hK2 => ?_
  refine wp_region_lit ?_
  refine ls hk rfl rfl rfl (e_move hk rfl _) fun a hk => ?_
  refine la hk rfl (a_call hk rfl rfl (c_fn hk rfl ok72) (c72 key 54 _ (hGR.ext hB) (by omega)) ?_)
  rintro e w ⟨ad, c, rfl, hown, hE⟩
  refine ⟨_, rfl, fun a hk => ?_⟩
  refine ls hk rfl rfl rfl (e_assign hk rfl _) fun a hk => ?_
  refine lnil (hK2 _ _ ?_)
  refine wp_seq_k fun K3 hK3 => ?_
  refine wp_region_lit ?_
  refine ls hk rfl rfl rfl (e_move hk rfl _) fun a hk => ?_
  refine ls hk rfl rfl rfl (e_move hk rfl _) fun a hk => ?_
  refine la hk rfl (a_appStr hk rfl rfl hown rfl Tryd.underlying22 Tryd.underlying9 el5 (by omega) hE.size fun a w v hk hown' hKp => ?_)
  have hB := kept_below hKp hE hown (Nat.le_refl _) hE.size
  obtain ⟨ad5, c5, rfl, _, hR5⟩ := Rd.of_own hown'
  rw [← List.map_append] at hR5
  have hm : 64 + text.length = (key64 key 54 ++ text).length := by rw [List.length_append, length_key64]
  rw [hm] at hk hR5
  clear hown hown' hKp hE
  refine ls hk rfl rfl rfl (e_assign hk rfl _) fun a hk => ?_
  refine lnil (hK3 _ _ ?_)
  refine wp_seq_k fun K4 hK4 => ?_
  refine wp_region_lit ?_
  refine ls hk rfl rfl rfl (e_move hk rfl _) fun a hk => ?_
  refine la hk rfl (a_call hk rfl rfl (c_fn hk rfl ok72) (c72 key 92 _ (hGR.ext hB) (by omega)) ?_)
  rintro e w ⟨ad, c, rfl, hown, hE⟩
  refine ⟨_, rfl, fun a hk => ?_⟩
  have hR5 := hR5.ext hE
  have hown := own_mono hown hB.size
  have hB := ext_trans hB hE
  refine ls hk rfl rfl rfl (e_assign hk rfl _) fun a hk => ?_
  refine lnil (hK4 _ _ ?_)
  refine wp_seq_k fun K5 hK5 => ?_
  refine wp_region_lit ?_
  refine ls hk rfl rfl rfl (e_move hk rfl _) fun a hk => ?_
  refine ls hk rfl rfl rfl (e_move hk rfl _) fun a hk => ?_
  refine la hk rfl (a_call hk rfl rfl (c_fn hk rfl ok24) (c24 (key64 key 54 ++ text) _ _ _ hR5 (hGR.ext hB) (by rw [← hm]; omega)) ?_)
  rintro e w ⟨rfl, hE⟩
  refine ⟨_, rfl, fun a hk => ?_⟩
  have hB := ext_trans hB hE
  have hown := own_ext hown hE
  refine la hk rfl (a_call hk rfl rfl (c_fn hk rfl ok32) (c32 (sha (key64 key 54 ++ text)) _ (length_sha _)) ?_)
  rintro e w ⟨rfl, hE⟩
  refine ⟨_, rfl, fun a hk => ?_⟩
  have hB := ext_trans hB hE
  have hown := own_ext hown hE
  refine la hk rfl (a_appStr hk rfl rfl hown rfl Tryd.underlying22 Tryd.underlying9 el5 (by rw [length_sha]; decide) hB.size fun a w v hk hown' hKp => ?_)
  have hB := kept_below hKp hB hown (Nat.le_refl _) hB.size
  obtain ⟨ad6, c6, rfl, _, hR6⟩ := Rd.of_own hown'
  rw [← List.map_append] at hR6
  have hm2 : 64 + (sha (key64 key 54 ++ text)).length = (key64 key 92 ++ sha (key64 key 54 ++ text)).length := by rw [List.length_append, length_key64]
  rw [hm2] at hk hR6
  clear hown hown' hKp hE
  refine ls hk rfl rfl rfl (e_assign hk rfl _) fun a hk => ?_
  refine lnil (hK5 _ _ ?_)
  refine wp_seq_k fun K6 hK6 => ?_
  refine wp_region_lit ?_
  refine ls hk rfl rfl rfl (e_move hk rfl _) fun a hk => ?_
  refine la hk rfl (a_call hk rfl rfl (c_fn hk rfl ok24) (c24 (key64 key 92 ++ sha (key64 key 54 ++ text)) _ _ _ hR6 (hGR.ext hB) (by rw [← hm2, length_sha]; decide)) ?_)
  rintro e w ⟨rfl, hE⟩
  refine ⟨_, rfl, fun a hk => ?_⟩
  have hB := ext_trans hB hE
  refine la hk rfl (a_call hk rfl rfl (c_fn hk rfl ok32) (c32 (sha (key64 key 92 ++ sha (key64 key 54 ++ text))) _ (length_sha _)) ?_)
  rintro e w ⟨rfl, hE⟩
  refine ⟨_, rfl, fun a hk => ?_⟩
  have hB := ext_trans hB hE
  refine ls hk rfl rfl rfl (e_assign hk rfl _) fun a hk => ?_
  refine lnil (hK6 _ _ ?_)
  refine wp_ret ?_
  exact ret1 hk rfl rfl ⟨rfl, hB⟩

set_option maxRecDepth 4000 in
set_option maxHeartbeats 1000000 in
theorem c5 (s t : List UInt8) (w0 : World) (hG : GH w0) (hGR : GR w0) : Calls Tryd.prog 5 #[Str s, Str t] w0 fun e w' => e = .returned (.bool true) ∧ Ext w0 w' := by
  rcases (by omega : s.length > 400 ∨ (s.length ≤ 400 ∧ t.length > 400) ∨ (s.length ≤ 400 ∧ t.length ≤ 400)) with hc | hc | hc
  · refine start 26 Tryd.func5 rfl rfl rfl fun a hk => ?_
    refine wp_seq_k fun K1 hK1 => ?_
    refine wp_region_lit ?_
    refine ls hk rfl rfl rfl (e_assign hk rfl _) fun a hk => ?_
    refine lnil (hK1 _ _ ?_)
    refine wp_seq_k fun K2 hK2 => ?_
    have hB : Ext w0 w0 := Below.refl _ _
    refine wp_region_lit ?_
    refine la hk rfl (a_call hk rfl rfl (c_fn (vs := []) hk rfl ok22) (c22 _ (hG.ext hB)) ?_)
    rintro e w ⟨rfl, hE⟩
    refine ⟨_, rfl, fun a hk => ?_⟩
    have hB := ext_trans hB hE
    refine ls hk rfl rfl rfl (e_assign hk rfl _) fun a hk => ?_
    refine lnil (hK2 _ _ ?_)
    refine wp_seq_k fun K3 hK3 => ?_
    refine wp_seq_k fun K4 hK4 => ?_
    refine wp_region_lit ?_
    refine ls hk rfl rfl rfl (e_move hk rfl _) fun a hk => ?_
    refine ls hk rfl rfl rfl (e_lenStr hk rfl Tryd.underlying9 _) fun a hk => ?_
    refine ls hk rfl rfl rfl (e_gtr (b := true) hk rfl rfl (decide_eq_true (by omega)) _) fun a hk => ?_
    refine ls hk rfl rfl rfl (e_move hk rfl _) fun a hk => ?_
    refine lno hk rfl rfl rfl fun a hk => ?_
    refine lno hk rfl rfl rfl fun a hk => ?_
    refine lno hk rfl rfl rfl fun a hk => ?_
    refine ls hk rfl rfl rfl (e_pickT hk rfl rfl _) fun a hk => ?_
    refine lnil (hK4 _ _ ?_)
    refine cdT hk rfl ?_
    refine wp_seq_k fun K5 hK5 => ?_
    refine wp_region_lit ?_
    refine ls hk rfl rfl rfl (e_move hk rfl _) fun a hk => ?_
    refine ls hk rfl rfl rfl (e_assign hk rfl _) fun a hk => ?_
    refine lnil (hK5 _ _ ?_)
    refine wp_ret ?_
    simp only [then_ret]
    exact ret1 hk rfl rfl ⟨rfl, hB⟩
  · refine start 26 Tryd.func5 rfl rfl rfl fun a hk => ?_
    refine wp_seq_k fun K1 hK1 => ?_
    refine wp_region_lit ?_
    refine ls hk rfl rfl rfl (e_assign hk rfl _) fun a hk => ?_
    refine lnil (hK1 _ _ ?_)
    refine wp_seq_k fun K2 hK2 => ?_
    have hB : Ext w0 w0 := Below.refl _ _
    refine wp_region_lit ?_
    refine la hk rfl (a_call hk rfl rfl (c_fn (vs := []) hk rfl ok22) (c22 _ (hG.ext hB)) ?_)
    rintro e w ⟨rfl, hE⟩
    refine ⟨_, rfl, fun a hk => ?_⟩
    have hB := ext_trans hB hE
    refine ls hk rfl rfl rfl (e_assign hk rfl _) fun a hk => ?_
    refine lnil (hK2 _ _ ?_)
    refine wp_seq_k fun K3 hK3 => ?_
    refine wp_seq_k fun K4 hK4 => ?_
    refine wp_region_lit ?_
    refine ls hk rfl rfl rfl (e_move hk rfl _) fun a hk => ?_
    refine ls hk rfl rfl rfl (e_lenStr hk rfl Tryd.underlying9 _) fun a hk => ?_
    refine ls hk rfl rfl rfl (e_gtr (b := false) hk rfl rfl (decide_eq_false (by omega)) _) fun a hk => ?_
    refine ls hk rfl rfl rfl (e_move hk rfl _) fun a hk => ?_
    refine ls hk rfl rfl rfl (e_move hk rfl _) fun a hk => ?_
    refine ls hk rfl rfl rfl (e_lenStr hk rfl Tryd.underlying9 _) fun a hk => ?_
    refine ls hk rfl rfl rfl (e_gtr (b := true) hk rfl rfl (decide_eq_true (by omega)) _) fun a hk => ?_
    refine ls hk rfl rfl rfl (e_pickF hk rfl rfl _) fun a hk => ?_
    refine lnil (hK4 _ _ ?_)
    refine cdT hk rfl ?_
    refine wp_seq_k fun K5 hK5 => ?_
    refine wp_region_lit ?_
    refine ls hk rfl rfl rfl (e_move hk rfl _) fun a hk => ?_
    refine ls hk rfl rfl rfl (e_assign hk rfl _) fun a hk => ?_
    refine lnil (hK5 _ _ ?_)
    refine wp_ret ?_
    simp only [then_ret]
    exact ret1 hk rfl rfl ⟨rfl, hB⟩
  · refine start 26 Tryd.func5 rfl rfl rfl fun a hk => ?_
    refine wp_seq_k fun K1 hK1 => ?_
    refine wp_region_lit ?_
    refine ls hk rfl rfl rfl (e_assign hk rfl _) fun a hk => ?_
    refine lnil (hK1 _ _ ?_)
    refine wp_seq_k fun K2 hK2 => ?_
    have hB : Ext w0 w0 := Below.refl _ _
    refine wp_region_lit ?_
    refine la hk rfl (a_call hk rfl rfl (c_fn (vs := []) hk rfl ok22) (c22 _ (hG.ext hB)) ?_)
    rintro e w ⟨rfl, hE⟩
    refine ⟨_, rfl, fun a hk => ?_⟩
    have hB := ext_trans hB hE
    refine ls hk rfl rfl rfl (e_assign hk rfl _) fun a hk => ?_
    refine lnil (hK2 _ _ ?_)
    refine wp_seq_k fun K3 hK3 => ?_
    refine wp_seq_k fun K4 hK4 => ?_
    refine wp_region_lit ?_
    refine ls hk rfl rfl rfl (e_move hk rfl _) fun a hk => ?_
    refine ls hk rfl rfl rfl (e_lenStr hk rfl Tryd.underlying9 _) fun a hk => ?_
    refine ls hk rfl rfl rfl (e_gtr (b := false) hk rfl rfl (decide_eq_false (by omega)) _) fun a hk => ?_
    refine ls hk rfl rfl rfl (e_move hk rfl _) fun a hk => ?_
    refine ls hk rfl rfl rfl (e_move hk rfl _) fun a hk => ?_
    refine ls hk rfl rfl rfl (e_lenStr hk rfl Tryd.underlying9 _) fun a hk => ?_
    refine ls hk rfl rfl rfl (e_gtr (b := false) hk rfl rfl (decide_eq_false (by omega)) _) fun a hk => ?_
    refine ls hk rfl rfl rfl (e_pickF hk rfl rfl _) fun a hk => ?_
    refine lnil (hK4 _ _ ?_)
    refine cdF hk rfl ?_
    refine wp_skip (hK3 _ _ ?_)
    refine wp_seq_k fun K5 hK5 => ?_
    refine wp_region_lit ?_
    refine ls hk rfl rfl rfl (e_move hk rfl _) fun a hk => ?_
    refine ls hk rfl rfl rfl (e_move hk rfl _) fun a hk => ?_
    refine ls hk rfl rfl rfl (e_move hk rfl _) fun a hk => ?_
    refine ls hk rfl rfl rfl (e_move hk rfl _) fun a hk => ?_
    refine la hk rfl (a_call hk rfl rfl (c_fn hk rfl ok30) (c30 s t _ (hG.ext hB) (by omega) (by omega)) ?_)
    rintro e w ⟨rfl, hE⟩
    refine ⟨_, rfl, fun a hk => ?_⟩
    have hB := ext_trans hB hE
    refine ls hk rfl rfl rfl (e_move hk rfl _) fun a hk => ?_
    refine ls hk rfl rfl rfl (e_move hk rfl _) fun a hk => ?_
    refine la hk rfl (a_call hk rfl rfl (c_fn hk rfl ok31) (c31 s t _ (hGR.ext hB) (by omega) (by omega)) ?_)
    rintro e w ⟨rfl, hE⟩
    refine ⟨_, rfl, fun a hk => ?_⟩
    have hB := ext_trans hB hE
    refine ls hk rfl rfl rfl (e_seql (s := mac s t) (u := mac s t) (b := true) hk rfl rfl (decide_eq_true rfl) _) fun a hk => ?_
    refine ls hk rfl rfl rfl (e_pickT hk rfl rfl _) fun a hk => ?_
    refine ls hk rfl rfl rfl (e_assign hk rfl _) fun a hk => ?_
    refine lnil (hK5 _ _ ?_)
    refine wp_ret ?_
    exact ret1 hk rfl rfl ⟨rfl, hB⟩

end Go.Proofs.YtidfbboalbchiaaDoor

namespace Go.Proofs.YtidfbboalbchiaaDoor
open Go Go.RowKit

/-- Few pieces, each short. -/
def few (ps : List (List UInt8)) : Bool := decide (ps.length ≤ 12) && ps.all fun x => decide (x.length ≤ 400)
theorem few_iff (ps : List (List UInt8)) : few ps = true ↔ ps.length ≤ 12 ∧ ∀ x ∈ ps, x.length ≤ 400 := by
  simp [few]

set_option maxRecDepth 4000 in
set_option maxHeartbeats 1000000 in
theorem c25 (ps : List (List UInt8)) (ad : Option Addr) (c : Nat) (w0 : World) (hR : Rs w0 ad ps.length c ps) (hn : ps.length ≤ 9223372036854775807) :
    Calls Tryd.prog 25 #[.slice ad ps.length c] w0 fun e w' => e = .returned (.bool (few ps)) ∧ Ext w0 w' := by
  refine start 19 Tryd.func25 rfl rfl rfl fun a hk => ?_
  refine wp_seq_k fun K1 hK1 => ?_
  refine wp_region_lit ?_
  refine ls hk rfl rfl rfl (e_assign hk rfl _) fun a hk => ?_
  refine lnil (hK1 _ _ ?_)
  refine wp_seq_k fun K2 hK2 => ?_
  refine wp_seq_k fun K3 hK3 => ?_
  refine wp_region_lit ?_
  refine ls hk rfl rfl rfl (e_move hk rfl _) fun a hk => ?_
  refine ls hk rfl rfl rfl (e_lenS hk rfl Tryd.underlying27 _) fun a hk => ?_
  refine ls hk rfl rfl rfl (e_gtr hk rfl rfl rfl _) fun a hk => ?_
  refine lnil (hK3 _ _ ?_)
  refine cdB hk rfl (fun hb => ?_) (fun hb => ?_)
  · have hgt : ¬ ps.length ≤ 12 := by have := of_decide_eq_true hb; omega
    refine wp_seq_k fun K4 hK4 => ?_
    refine wp_region_lit ?_
    refine ls hk rfl rfl rfl (e_assign hk rfl _) fun a hk => ?_
    refine lnil (hK4 _ _ ?_)
    refine wp_ret ?_
    simp only [then_ret]
    exact ret1 hk rfl rfl ⟨by simp [few, hgt], Below.refl _ _⟩
  · have hle : ps.length ≤ 12 := by have := of_decide_eq_false hb; omega
    refine wp_skip (hK2 _ _ ?_)
    refine wp_seq_k fun K5 hK5 => ?_
    refine wp_seq_k fun K6 hK6 => ?_
    refine wp_region_lit ?_
    refine ls hk rfl rfl rfl (e_assign hk rfl _) fun a hk => ?_
    refine lnil (hK6 _ _ ?_)
    refine wp_block ?_
    refine loopN (fun n a w => ∃ j : Nat, n = ps.length - j ∧ j ≤ ps.length ∧ (∀ x ∈ ps.take j, x.length ≤ 400) ∧ Kn a 19 [(0, .slice ad ps.length c), (3, I j)] ∧ Ext w0 w) (ps.length) ?_ fun n a w hI => ?_
    · exact ⟨0, rfl, Nat.zero_le _, by simp, hk.sub _ ⟨rfl, rfl, trivial⟩, Below.refl _ _⟩
    obtain ⟨j, rfl, hj, hall, hk, hB⟩ := hI
    refine wp_seq_k fun K7 hK7 => ?_
    refine wp_seq_k fun K8 hK8 => ?_
    refine wp_region_lit ?_
    refine ls hk rfl rfl rfl (e_move hk rfl _) fun a hk => ?_
    refine ls hk rfl rfl rfl (e_move hk rfl _) fun a hk => ?_
    refine ls hk rfl rfl rfl (e_lenS hk rfl Tryd.underlying27 _) fun a hk => ?_
    refine ls hk rfl rfl rfl (e_lss hk rfl rfl rfl _) fun a hk => ?_
    refine lnil (hK8 _ _ ?_)
    refine cdB hk rfl (fun hb => ?_) (fun hb => ?_)
    · have hjl : j < ps.length := by have := of_decide_eq_true hb; omega
      obtain ⟨x, hx⟩ : ∃ x, ps[j]? = some x := ⟨_, List.getElem?_eq_getElem hjl⟩
      obtain ⟨bp, op, rfl, hcell⟩ := Rs.get (Rd.below hR hB (Nat.le_refl _)) j x hx
      refine wp_skip (hK7 _ _ ?_)
      refine wp_seq_k fun K9 hK9 => ?_
      refine wp_block ?_
      refine wp_seq_k fun K10 hK10 => ?_
      refine wp_region_lit ?_
      refine ls hk rfl rfl rfl (e_move hk rfl _) fun a hk => ?_
      refine ls hk rfl rfl rfl (e_move hk rfl _) fun a hk => ?_
      refine ls hk rfl rfl rfl (e_idxS1 j hk rfl rfl Tryd.underlying27 sz9 rfl hjl _) fun a hk => ?_
      refine ls hk rfl rfl rfl (r_load1 (v := Str x) hk rfl Tryd.underlying9 rfl hcell) fun a hk => ?_
      refine ls hk rfl rfl rfl (e_lenStr hk rfl Tryd.underlying9 _) fun a hk => ?_
      refine ls hk rfl rfl rfl (e_gtr hk rfl rfl rfl _) fun a hk => ?_
      refine lnil (hK10 _ _ ?_)
      refine cdB hk rfl (fun hb => ?_) (fun hb => ?_)
      · have hbig : 400 < x.length := by have := of_decide_eq_true hb; omega
        refine wp_seq_k fun K11 hK11 => ?_
        refine wp_region_lit ?_
        refine ls hk rfl rfl rfl (e_assign hk rfl _) fun a hk => ?_
        refine lnil (hK11 _ _ ?_)
        refine wp_ret ?_
        simp only [then_ret, blk_ret]
        exact ret1 hk rfl rfl ⟨by rw [show few ps = false from Bool.eq_false_iff.2 fun h => by have := ((few_iff ps).1 h).2 x (List.mem_of_getElem? hx); omega], hB⟩
      · have hsm : x.length ≤ 400 := by have := of_decide_eq_false hb; omega
        have hall2 : ∀ y ∈ ps.take (j + 1), y.length ≤ 400 := by
          intro y hy
          rw [List.take_add_one, hx] at hy
          rcases List.mem_append.1 hy with h | h
          · exact hall y h
          · obtain rfl : y = x := by simpa using h
            exact hsm
        refine wp_skip (hK9 _ _ ?_)
        refine wp_region_lit ?_
        refine ls hk rfl rfl rfl (e_move hk rfl _) fun a hk => ?_
        refine ls hk rfl rfl rfl (e_add hk rfl rfl (i64 (by omega) (by omega)) _) fun a hk => ?_
        refine ls hk rfl rfl rfl (e_assign hk rfl _) fun a hk => ?_
        refine lnil (show ∃ m : Nat, m < _ ∧ _ from ⟨ps.length - (j + 1), by omega, j + 1, rfl, by omega, hall2, hk.sub _ ⟨rfl, rfl, trivial⟩, hB⟩)
    · have hjl : j = ps.length := by have := of_decide_eq_false hb; omega
      subst hjl
      rw [List.take_length] at hall
      refine wp_exit (hK5 _ _ ?_)
      refine wp_seq_k fun K12 hK12 => ?_
      refine wp_region_lit ?_
      refine ls hk rfl rfl rfl (e_assign hk rfl _) fun a hk => ?_
      refine lnil (hK12 _ _ ?_)
      refine wp_ret ?_
      exact ret1 hk rfl rfl ⟨by rw [(few_iff ps).2 ⟨hle, hall⟩], hB⟩

theorem join_take (ps : List (List UInt8)) (j : Nat) (x : List UInt8) (h : ps[j]? = some x) : (ps.take (j + 1)).flatten = (ps.take j).flatten ++ x := by
  rw [List.take_add_one, h]
  simp only [Option.toList_some, List.flatten_append, List.flatten_cons, List.flatten_nil, List.append_nil]
theorem join_len (k : Nat) : ∀ (ps : List (List UInt8)), (∀ x ∈ ps, x.length ≤ k) → ps.flatten.length ≤ ps.length * k := by
  intro ps
  induction ps with
  | nil => intro _; simp
  | cons x r ih =>
    intro h
    have h1 := ih fun y hy => h y (List.mem_cons_of_mem _ hy)
    have h2 := h x (List.mem_cons_self ..)
    simp only [List.flatten_cons, List.length_append, List.length_cons]
    rw [Nat.succ_mul]; omega

set_option maxRecDepth 4000 in
set_option maxHeartbeats 1000000 in
theorem c28 (ps : List (List UInt8)) (ad : Option Addr) (c : Nat) (w0 : World) (hR : Rs w0 ad ps.length c ps) (hn : ps.length ≤ 1000000) (hlen : ∀ x ∈ ps, x.length ≤ 1000000) :
    Calls Tryd.prog 28 #[.slice ad ps.length c] w0 fun e w' => e = .returned (Str ps.flatten) ∧ Ext w0 w' := by
  refine start 18 Tryd.func28 rfl rfl rfl fun a hk => ?_
  refine wp_seq_k fun K1 hK1 => ?_
  refine wp_region_lit ?_
  refine ls hk rfl rfl rfl (e_assign hk rfl _) fun a hk => ?_
  refine lnil (hK1 _ _ ?_)
  refine wp_seq_k fun K2 hK2 => ?_
  refine wp_region_lit ?_
  refine ls hk rfl rfl rfl (e_assign hk rfl _) fun a hk => ?_
  refine lnil (hK2 _ _ ?_)
  refine wp_seq_k fun K3 hK3 => ?_
  refine wp_seq_k fun K4 hK4 => ?_
  refine wp_region_lit ?_
  refine ls hk rfl rfl rfl (e_assign hk rfl _) fun a hk => ?_
  refine lnil (hK4 _ _ ?_)
  refine wp_block ?_
  refine loopN (fun n a w => ∃ j : Nat, n = ps.length - j ∧ j ≤ ps.length ∧ Kn a 18 [(0, .slice ad ps.length c), (3, Str (ps.take j).flatten), (4, I j)] ∧ Ext w0 w) (ps.length) ?_ fun n a w hI => ?_
  · exact ⟨0, rfl, Nat.zero_le _, hk.sub _ ⟨rfl, rfl, rfl, trivial⟩, Below.refl _ _⟩
  obtain ⟨j, rfl, hj, hk, hB⟩ := hI
  refine wp_seq_k fun K5 hK5 => ?_
  refine wp_seq_k fun K6 hK6 => ?_
  refine wp_region_lit ?_
  refine ls hk rfl rfl rfl (e_move hk rfl _) fun a hk => ?_
  refine ls hk rfl rfl rfl (e_move hk rfl _) fun a hk => ?_
  refine ls hk rfl rfl rfl (e_lenS hk rfl Tryd.underlying27 _) fun a hk => ?_
  refine ls hk rfl rfl rfl (e_lss hk rfl rfl rfl _) fun a hk => ?_
  refine lnil (hK6 _ _ ?_)
  refine cdB hk rfl (fun hb => ?_) (fun hb => ?_)
  · have hjl : j < ps.length := by have := of_decide_eq_true hb; omega
    obtain ⟨x, hx⟩ : ∃ x, ps[j]? = some x := ⟨_, List.getElem?_eq_getElem hjl⟩
    obtain ⟨bp, op, rfl, hcell⟩ := Rs.get (Rd.below hR hB (Nat.le_refl _)) j x hx
    have hxl := hlen x (List.mem_of_getElem? hx)
    have hfl := join_len 1000000 (ps.take j) fun y hy => hlen y (List.mem_of_mem_take hy)
    have htl : (ps.take j).length ≤ 1000000 := by simp; omega
    refine wp_skip (hK5 _ _ ?_)
    refine wp_seq_k fun K7 hK7 => ?_
    refine wp_block ?_
    refine wp_region_lit ?_
    refine ls hk rfl rfl rfl (e_move hk rfl _) fun a hk => ?_
    refine ls hk rfl rfl rfl (e_move hk rfl _) fun a hk => ?_
    refine ls hk rfl rfl rfl (e_move hk rfl _) fun a hk => ?_
    refine ls hk rfl rfl rfl (e_idxS1 j hk rfl rfl Tryd.underlying27 sz9 rfl hjl _) fun a hk => ?_
    refine ls hk rfl rfl rfl (r_load1 (v := Str x) hk rfl Tryd.underlying9 rfl hcell) fun a hk => ?_
    refine ls hk rfl rfl rfl (e_sadd (s := (ps.take j).flatten) (u := x) hk rfl rfl (by omega) _) fun a hk => ?_
    refine ls hk rfl rfl rfl (e_assign hk rfl _) fun a hk => ?_
    refine lnil (hK7 _ _ ?_)
    refine wp_region_lit ?_
    refine ls hk rfl rfl rfl (e_move hk rfl _) fun a hk => ?_
    refine ls hk rfl rfl rfl (e_add hk rfl rfl (i64 (by omega) (by omega)) _) fun a hk => ?_
    refine ls hk rfl rfl rfl (e_assign hk rfl _) fun a hk => ?_
    refine lnil (show ∃ m : Nat, m < _ ∧ _ from ⟨ps.length - (j + 1), by omega, j + 1, rfl, by omega, hk.sub _ ⟨rfl, by rw [join_take ps j x hx]; rfl, rfl, trivial⟩, hB⟩)
  · have hjl : j = ps.length := by have := of_decide_eq_false hb; omega
    subst hjl
    refine wp_exit (hK3 _ _ ?_)
    refine wp_seq_k fun K8 hK8 => ?_
    refine wp_region_lit ?_
    refine ls hk rfl rfl rfl (e_move hk rfl _) fun a hk => ?_
    refine ls hk rfl rfl rfl (e_assign hk rfl _) fun a hk => ?_
    refine lnil (hK8 _ _ ?_)
    refine wp_ret ?_
    exact ret1 hk rfl rfl ⟨by rw [List.take_length], hB⟩

end Go.Proofs.YtidfbboalbchiaaDoor
