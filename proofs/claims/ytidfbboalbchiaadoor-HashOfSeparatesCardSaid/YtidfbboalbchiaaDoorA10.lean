/- The walk of the hash laws' sanity check: it answers true. The hashes of its constants are computed. -/
import Derived.Test.YtidfbboalbchiaaDoorA9
import Derived.Test.YtidfbboalbchiaaDoorEval
import Derived.Test.YtidfbboalbchiaaDoorEqA
namespace Go.Proofs.YtidfbboalbchiaaDoor
open Go Go.RowKit

theorem sha_abc : sha [97, 98, 99] = [186, 120, 22, 191, 143, 1, 207, 234, 65, 65, 64, 222, 93, 174, 34, 35, 176, 3, 97, 163, 150, 23, 122, 156, 180, 16, 255, 97, 242, 0, 21, 173] := sha_is _ _ (by kernel_rfl)
theorem hex_abc : hexL (sha [97, 98, 99]) = [98, 97, 55, 56, 49, 54, 98, 102, 56, 102, 48, 49, 99, 102, 101, 97, 52, 49, 52, 49, 52, 48, 100, 101, 53, 100, 97, 101, 50, 50, 50, 51, 98, 48, 48, 51, 54, 49, 97, 51, 57, 54, 49, 55, 55, 97, 57, 99, 98, 52, 49, 48, 102, 102, 54, 49, 102, 50, 48, 48, 49, 53, 97, 100] := by rw [sha_abc]; kernel_rfl
theorem mac_jefe : mac [74, 101, 102, 101] [119, 104, 97, 116, 32, 100, 111, 32, 121, 97, 32, 119, 97, 110, 116, 32, 102, 111, 114, 32, 110, 111, 116, 104, 105, 110, 103, 63] = [91, 220, 193, 70, 191, 96, 117, 78, 106, 4, 36, 38, 8, 149, 117, 199, 90, 0, 63, 8, 157, 39, 57, 131, 157, 236, 88, 185, 100, 236, 56, 67] := by
  have h : sha (key64 [74, 101, 102, 101] 54 ++ [119, 104, 97, 116, 32, 100, 111, 32, 121, 97, 32, 119, 97, 110, 116, 32, 102, 111, 114, 32, 110, 111, 116, 104, 105, 110, 103, 63]) = [162, 228, 133, 134, 61, 39, 249, 216, 100, 172, 141, 128, 36, 50, 161, 237, 71, 125, 140, 76, 111, 52, 157, 22, 212, 231, 233, 23, 198, 41, 202, 215] := sha_is _ _ (by kernel_rfl)
  unfold mac
  rw [h]
  exact sha_is _ _ (by kernel_rfl)
theorem hex_jefe : hexL (mac [74, 101, 102, 101] [119, 104, 97, 116, 32, 100, 111, 32, 121, 97, 32, 119, 97, 110, 116, 32, 102, 111, 114, 32, 110, 111, 116, 104, 105, 110, 103, 63]) = [53, 98, 100, 99, 99, 49, 52, 54, 98, 102, 54, 48, 55, 53, 52, 101, 54, 97, 48, 52, 50, 52, 50, 54, 48, 56, 57, 53, 55, 53, 99, 55, 53, 97, 48, 48, 51, 102, 48, 56, 57, 100, 50, 55, 51, 57, 56, 51, 57, 100, 101, 99, 53, 56, 98, 57, 54, 52, 101, 99, 51, 56, 52, 51] := by rw [mac_jefe]; kernel_rfl
theorem of_a : sha (ofIn 8 [[97], []]) = [54, 205, 80, 133, 3, 41, 248, 132, 6, 227, 27, 184, 167, 216, 251, 98, 14, 118, 198, 112, 165, 195, 11, 158, 192, 170, 190, 22, 148, 0, 123, 21] := sha_is _ _ (by kernel_rfl)
theorem hex_of : hexL ((sha (ofIn 8 [[97], []])).take 16) = [51, 54, 99, 100, 53, 48, 56, 53, 48, 51, 50, 57, 102, 56, 56, 52, 48, 54, 101, 51, 49, 98, 98, 56, 97, 55, 100, 56, 102, 98, 54, 50] := by rw [of_a]; kernel_rfl
theorem lit3 (z v u t : Value) (hv : v.cells = #[v]) (hu : u.cells = #[u]) (ht : t.cells = #[t]) : Instr.fill (fun i => some (i * 1, 1)) ((Array.range (3 * 1)).map (z.cells[· % z.cells.size]!)) [(0, v), (1, u), (2, t)] = some #[v, u, t] := by
  have hr : Array.range 3 = #[0, 1, 2] := by decide
  have h : ∀ p q s : Value, (#[p, q, s] : Array Value).setIfInBounds 0 v = #[v, q, s] := fun _ _ _ => rfl
  have h' : ∀ p q s : Value, (#[p, q, s] : Array Value).setIfInBounds 1 u = #[p, u, s] := fun _ _ _ => rfl
  have h'' : ∀ p q s : Value, (#[p, q, s] : Array Value).setIfInBounds 2 t = #[p, q, t] := fun _ _ _ => rfl
  simp [Instr.fill, hv, hu, ht, hr, h, h', h'']
theorem eg24 : Tryd.prog.eqGuardType Tryd.prog.depth 24 = false := by kernel_rfl
theorem eg44 : Tryd.prog.eqGuardType Tryd.prog.depth 44 = false := by kernel_rfl

set_option maxRecDepth 4000 in
set_option maxHeartbeats 1000000 in
theorem c22 (w0 : World) (hG : GH w0) : Calls Tryd.prog 22 #[] w0 fun e w' => e = .returned (.bool true) ∧ Ext w0 w' := by
  refine start (args := []) 49 Tryd.func22 rfl rfl rfl fun a hk => ?_
  refine wp_seq_k fun K1 hK1 => ?_
  refine wp_region_lit ?_
  refine ls hk rfl rfl rfl (e_assign hk rfl _) fun a hk => ?_
  refine lnil (hK1 _ _ ?_)
  refine wp_seq_k fun K2 hK2 => ?_
  have hB : Ext w0 w0 := Below.refl _ _
  refine wp_region_lit ?_
  refine la hk rfl (a_lit (cells := #[B 97, B 98, B 99]) (zv := .int .u8 0) (sz := 1) (by_ := 1) hk rfl rfl Tryd.underlying22 el5 (by decide) (by decide) (lit3 _ _ _ _ rfl rfl rfl) rfl fun a w bl hk GL => ?_)
  have hB := ext_trans hB GL.ext
  refine la hk rfl (a_convB hk rfl rfl Tryd.underlying22 Tryd.underlying5 GL.at_ fun a w hk WL => ?_)
  have hB : Ext w0 w := WL.below GL.ext GL.ge
  have hRd : Rd w (some ⟨bl, 0, none⟩) 3 3 1 (([97, 98, 99] : List UInt8).map B) := Rd.of_block WL.at_ rfl (Nat.le_refl _) (fun i hi => by
    have hi' : i < 3 := hi
    match i, hi' with
    | 0, _ => rfl
    | 1, _ => rfl
    | 2, _ => rfl)
  clear WL GL
  refine la hk rfl (a_call hk rfl rfl (c_fn hk rfl ok23) (c23 [97, 98, 99] _ _ _ _ hRd (hG.ext hB) (by decide)) ?_)
  rintro e w ⟨rfl, hE⟩
  refine ⟨_, rfl, fun a hk => ?_⟩
  have hB := ext_trans hB hE
  refine la hk rfl (a_alloc hk rfl zr24 fun a w b1 hk G1 => ?_)
  refine la hk rfl (a_storeB hk rfl rfl (bytes_oneA _) (by rw [sz24]; simp [length_sha]) G1.at_ (by simp [length_sha, Value.cells]) fun a w hk W1 => ?_)
  have hB := W1.below (ext_trans hB G1.ext) (Nat.le_trans hB.size G1.ge)
  have h1 := W1.at_
  clear W1 G1 hE
  refine lnil (hK2 _ _ ?_)
  refine wp_seq_k fun K3 hK3 => ?_
  refine wp_region_lit ?_
  refine la hk rfl (a_call hk rfl rfl (c_fn (vs := []) hk rfl ok26) (c26 _) ?_)
  rintro e w ⟨v, rfl, hIs, hE⟩
  refine ⟨_, rfl, fun a hk => ?_⟩
  have h1 := ext_at hE h1
  have hB := ext_trans hB hE
  refine la hk rfl (a_call hk rfl rfl (c_fn hk rfl ok27) (c27 [] [97] _ _ hIs (hG.ext hB) (by decide)) ?_)
  rintro e w ⟨v, rfl, hIs, hE⟩
  refine ⟨_, rfl, fun a hk => ?_⟩
  have h1 := ext_at hE h1
  have hB := ext_trans hB hE
  refine la hk rfl (a_call hk rfl rfl (c_fn hk rfl ok27) (c27 _ [98, 99] _ _ hIs (hG.ext hB) (by decide)) ?_)
  rintro e w ⟨v, rfl, hIs, hE⟩
  refine ⟨_, rfl, fun a hk => ?_⟩
  have h1 := ext_at hE h1
  have hB := ext_trans hB hE
  refine la hk rfl (a_call hk rfl rfl (c_fn hk rfl ok29) (c29 [97, 98, 99] _ _ hIs (hG.ext hB) (by decide)) ?_)
  rintro e w ⟨rfl, hE⟩
  refine ⟨_, rfl, fun a hk => ?_⟩
  have h1 := ext_at hE h1
  have hB := ext_trans hB hE
  refine la hk rfl (a_alloc hk rfl zr24 fun a w b2 hk G2 => ?_)
  refine la hk rfl (a_storeB hk rfl rfl (bytes_oneA _) (by rw [sz24]; simp [length_sha]) G2.at_ (by simp [length_sha, Value.cells]) fun a w hk W1 => ?_)
  have h1 := W1.keep (G2.ne h1) (ext_at G2.ext h1)
  have hB := W1.below (ext_trans hB G2.ext) (Nat.le_trans hB.size G2.ge)
  have h2 := W1.at_
  clear W1 G2 hE hIs
  refine lnil (hK3 _ _ ?_)
  refine wp_seq_k fun K4 hK4 => ?_
  refine wp_region_lit ?_
  refine la hk rfl (a_lit (cells := #[Str [97], Str []]) (zv := .string ByteArray.empty) (sz := 1) (by_ := 16) hk rfl rfl Tryd.underlying27 el9 (by decide) (by decide) (lit2 _ _ _ rfl rfl) rfl fun a w bl hk GL => ?_)
  have h1 := ext_at GL.ext h1
  have h2 := ext_at GL.ext h2
  have hB := ext_trans hB GL.ext
  have hRs : Rs w (some ⟨bl, 0, none⟩) 2 2 [[97], []] := Rd.of_block GL.at_ rfl (Nat.le_refl _) (fun i hi => by
    have hi' : i < 2 := hi
    match i, hi' with
    | 0, _ => rfl
    | 1, _ => rfl)
  clear GL
  refine la hk rfl (a_call hk rfl rfl (c_fn hk rfl ok35) (c35 8 [[97], []] _ _ _ hRs (hG.ext hB) (by decide) (by decide)) ?_)
  rintro e w ⟨rfl, hE⟩
  refine ⟨_, rfl, fun a hk => ?_⟩
  have hB := ext_trans hB hE
  have h1 := ext_at hE h1
  have h2 := ext_at hE h2
  refine la hk rfl (a_alloc hk rfl zr44 fun a w b3 hk G3 => ?_)
  refine la hk rfl (a_storeB hk rfl rfl (bytes_oneA _) (by rw [sz44]; simp [length_sha]) G3.at_ (by simp [length_sha, Value.cells]) fun a w hk W1 => ?_)
  have h1 := W1.keep (G3.ne h1) (ext_at G3.ext h1)
  have h2 := W1.keep (G3.ne h2) (ext_at G3.ext h2)
  have hB := W1.below (ext_trans hB G3.ext) (Nat.le_trans hB.size G3.ge)
  have h3 := W1.at_
  clear W1 G3 hE hRs
  refine lnil (hK4 _ _ ?_)
  refine wp_seq_k fun K5 hK5 => ?_
  refine wp_region_lit ?_
  refine la hk rfl (a_call hk rfl rfl (c_fn hk rfl ok30) (c30 [74, 101, 102, 101] [119, 104, 97, 116, 32, 100, 111, 32, 121, 97, 32, 119, 97, 110, 116, 32, 102, 111, 114, 32, 110, 111, 116, 104, 105, 110, 103, 63] _ (hG.ext hB) (by decide) (by decide)) ?_)
  rintro e w ⟨rfl, hE⟩
  refine ⟨_, rfl, fun a hk => ?_⟩
  have hB := ext_trans hB hE
  have h1 := ext_at hE h1
  have h2 := ext_at hE h2
  have h3 := ext_at hE h3
  refine ls hk rfl rfl rfl (e_assign hk rfl _) fun a hk => ?_
  refine lnil (hK5 _ _ ?_)
  refine wp_seq_k fun K6 hK6 => ?_
  refine wp_region_lit ?_
  refine la hk rfl (a_call hk rfl rfl (c_fn hk rfl ok43) (c43 [97, 98] [97, 98] _ (by decide)) ?_)
  rintro e w ⟨rfl, hE⟩
  refine ⟨.bool true, rfl, fun a hk => ?_⟩
  have hB := ext_trans hB hE
  have h1 := ext_at hE h1
  have h2 := ext_at hE h2
  have h3 := ext_at hE h3
  refine ls hk rfl rfl rfl (e_assign hk rfl _) fun a hk => ?_
  refine lnil (hK6 _ _ ?_)
  refine wp_seq_k fun K7 hK7 => ?_
  refine wp_region_lit ?_
  refine la hk rfl (a_call hk rfl rfl (c_fn hk rfl ok43) (c43 [97, 98] [97, 99] _ (by decide)) ?_)
  rintro e w ⟨rfl, hE⟩
  refine ⟨.bool false, rfl, fun a hk => ?_⟩
  have hB := ext_trans hB hE
  have h1 := ext_at hE h1
  have h2 := ext_at hE h2
  have h3 := ext_at hE h3
  refine ls hk rfl rfl rfl (e_move hk rfl _) fun a hk => ?_
  refine la hk rfl (a_call hk rfl rfl (c_fn hk rfl ok43) (c43 [] [97] _ (by decide)) ?_)
  rintro e w ⟨rfl, hE⟩
  refine ⟨.bool false, rfl, fun a hk => ?_⟩
  have hB := ext_trans hB hE
  have h1 := ext_at hE h1
  have h2 := ext_at hE h2
  have h3 := ext_at hE h3
  refine ls hk rfl rfl rfl (e_pickF hk rfl rfl _) fun a hk => ?_
  refine ls hk rfl rfl rfl (e_assign hk rfl _) fun a hk => ?_
  refine lnil (hK7 _ _ ?_)
  refine wp_seq_k fun K8 hK8 => ?_
  refine wp_region_lit ?_
  refine ls hk rfl rfl rfl (r_loadB hk rfl h1 Tryd.underlying24 rfl (by rw [sz24]; simp [length_sha])) fun a hk => ?_
  refine la hk rfl (a_call hk rfl rfl (c_fn hk rfl ok32) (c32 (sha [97, 98, 99]) _ (length_sha _)) ?_)
  rintro e w ⟨rfl, hE⟩
  refine ⟨_, rfl, fun a hk => ?_⟩
  have hB := ext_trans hB hE
  have h1 := ext_at hE h1
  have h2 := ext_at hE h2
  have h3 := ext_at hE h3
  refine la hk rfl (a_call hk rfl rfl (c_fn hk rfl ok65) (c65 (sha [97, 98, 99]) _ (by rw [length_sha]; decide)) ?_)
  rintro e w ⟨rfl, hE⟩
  refine ⟨_, rfl, fun a hk => ?_⟩
  have hB := ext_trans hB hE
  have h1 := ext_at hE h1
  have h2 := ext_at hE h2
  have h3 := ext_at hE h3
  refine ls hk rfl rfl rfl (e_seql (s := hexL (sha [97, 98, 99])) (b := true) hk rfl rfl (decide_eq_true hex_abc) _) fun a hk => ?_
  refine ls hk rfl rfl rfl (e_move hk rfl _) fun a hk => ?_
  refine ls hk rfl rfl rfl (r_loadB hk rfl h1 Tryd.underlying24 rfl (by rw [sz24]; simp [length_sha])) fun a hk => ?_
  refine ls hk rfl rfl rfl (r_loadB hk rfl h2 Tryd.underlying24 rfl (by rw [sz24]; simp [length_sha])) fun a hk => ?_
  refine ls hk rfl rfl rfl (e_eqA (l := sha [97, 98, 99]) (r := sha [97, 98, 99]) (b := true) hk rfl rfl Tryd.underlying24 Tryd.underlying5 sz5 (length_sha _) (length_sha _) eg24 (decide_eq_true rfl) _) fun a hk => ?_
  refine ls hk rfl rfl rfl (e_pickT hk rfl rfl _) fun a hk => ?_
  refine ls hk rfl rfl rfl (e_move hk rfl _) fun a hk => ?_
  refine ls hk rfl rfl rfl (e_move hk rfl _) fun a hk => ?_
  refine la hk rfl (a_call hk rfl rfl (c_fn hk rfl ok65) (c65 (mac [74, 101, 102, 101] [119, 104, 97, 116, 32, 100, 111, 32, 121, 97, 32, 119, 97, 110, 116, 32, 102, 111, 114, 32, 110, 111, 116, 104, 105, 110, 103, 63]) _ (by rw [mac_jefe]; decide)) ?_)
  rintro e w ⟨rfl, hE⟩
  refine ⟨_, rfl, fun a hk => ?_⟩
  have hB := ext_trans hB hE
  have h3 := ext_at hE h3
  refine ls hk rfl rfl rfl (e_seql (s := hexL (mac [74, 101, 102, 101] [119, 104, 97, 116, 32, 100, 111, 32, 121, 97, 32, 119, 97, 110, 116, 32, 102, 111, 114, 32, 110, 111, 116, 104, 105, 110, 103, 63])) (b := true) hk rfl rfl (decide_eq_true hex_jefe) _) fun a hk => ?_
  refine ls hk rfl rfl rfl (e_pickT hk rfl rfl _) fun a hk => ?_
  refine ls hk rfl rfl rfl (e_move hk rfl _) fun a hk => ?_
  refine ls hk rfl rfl rfl (r_loadB hk rfl h3 Tryd.underlying44 rfl (by rw [sz44]; simp [length_sha])) fun a hk => ?_
  refine la hk rfl (a_call hk rfl rfl (c_fn hk rfl ok66) (c66 ((sha (ofIn 8 [[97], []])).take 16) _ (by simp [length_sha])) ?_)
  rintro e w ⟨rfl, hE⟩
  refine ⟨_, rfl, fun a hk => ?_⟩
  have hB := ext_trans hB hE
  refine la hk rfl (a_call hk rfl rfl (c_fn hk rfl ok65) (c65 ((sha (ofIn 8 [[97], []])).take 16) _ (by simp [length_sha])) ?_)
  rintro e w ⟨rfl, hE⟩
  refine ⟨_, rfl, fun a hk => ?_⟩
  have hB := ext_trans hB hE
  refine ls hk rfl rfl rfl (e_seql (s := hexL ((sha (ofIn 8 [[97], []])).take 16)) (b := true) hk rfl rfl (decide_eq_true hex_of) _) fun a hk => ?_
  refine ls hk rfl rfl rfl (e_pickT hk rfl rfl _) fun a hk => ?_
  refine ls hk rfl rfl rfl (e_move hk rfl _) fun a hk => ?_
  refine ls hk rfl rfl rfl (e_move hk rfl _) fun a hk => ?_
  refine ls hk rfl rfl rfl (e_pickT hk rfl rfl _) fun a hk => ?_
  refine ls hk rfl rfl rfl (e_move hk rfl _) fun a hk => ?_
  refine ls hk rfl rfl rfl (e_move hk rfl _) fun a hk => ?_
  refine ls hk rfl rfl rfl (e_notF hk rfl _) fun a hk => ?_
  refine ls hk rfl rfl rfl (e_pickT hk rfl rfl _) fun a hk => ?_
  refine ls hk rfl rfl rfl (e_assign hk rfl _) fun a hk => ?_
  refine lnil (hK8 _ _ ?_)
  refine wp_ret ?_
  exact ret1 hk rfl rfl ⟨rfl, hB⟩

end Go.Proofs.YtidfbboalbchiaaDoor
