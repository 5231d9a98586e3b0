/- The walk of the law of extended trees. -/
import Derived.Test.YtidfbboalbchiaaDoorVA40
import Derived.Test.YtidfbboalbchiaaDoorVLit
namespace Go.Proofs.YtidfbboalbchiaaDoor
open Go Go.RowKit

/-- Rows of pairs of numbers. -/
def ip (l : List (Int × Int)) : List Value := l.flatMap fun p => [I p.1, I p.2]
theorem ip_get : ∀ (l : List (Int × Int)) (j : Nat), j < l.length → (ip l)[2 * j]? = some (I (l.getD j (0, 0)).1) ∧ (ip l)[2 * j + 1]? = some (I (l.getD j (0, 0)).2) := by
  intro l
  induction l with
  | nil => intro j h; simp at h
  | cons p r ih =>
    intro j h
    cases j with
    | zero => exact ⟨rfl, rfl⟩
    | succ j =>
      have := ih j (by simpa using h)
      exact this
theorem ip_c1 {w : World} {b : Nat} {t : TypeId} {fr : Nat × Nat} {l : List (Int × Int)} (h : w.heap[b]? = some (.cells (ip l).toArray t fr)) (j : Nat) (hj : j < l.length) : w.cell? ⟨b, 0 + j * 2 + 0 * 1, none⟩ = some (I (l.getD j (0, 0)).1) := by
  rw [cell_of_row w b _ _ t fr h, show 0 + j * 2 + 0 * 1 = 2 * j by omega]
  rw [List.getElem?_toArray]; exact (ip_get l j hj).1
theorem ip_c2 {w : World} {b : Nat} {t : TypeId} {fr : Nat × Nat} {l : List (Int × Int)} (h : w.heap[b]? = some (.cells (ip l).toArray t fr)) (j : Nat) (hj : j < l.length) : w.cell? ⟨b, 0 + j * 2 + 1 * 1, none⟩ = some (I (l.getD j (0, 0)).2) := by
  rw [cell_of_row w b _ _ t fr h, show 0 + j * 2 + 1 * 1 = 2 * j + 1 by omega]
  rw [List.getElem?_toArray]; exact (ip_get l j hj).2
theorem row_c {w : World} {b : Nat} {t : TypeId} {fr : Nat × Nat} {cs : List Value} {v : Value} (h : w.heap[b]? = some (.cells cs.toArray t fr)) (i : Nat) (hi : cs[i]? = some v) : w.cell? ⟨b, 0 + i * 1, none⟩ = some v := by
  rw [cell_of_row w b _ _ t fr h, show 0 + i * 1 = i by omega]
  rw [List.getElem?_toArray]; exact hi
theorem rdg_lits {w : World} {b n : Nat} {t : TypeId} {fr : Nat × Nat} {s : List (List UInt8)} (h : w.heap[b]? = some (.cells (digs16 s).toArray t fr)) (hl : ∀ d ∈ s, d.length = 16) (hn : (digs16 s).length = n * 16) : Rdg w (some ⟨b, 0, none⟩) n n s :=
  ⟨Rd.of_block h hn (Nat.le_refl _) fun i hi => by rw [Nat.zero_add]; simp, hl⟩
theorem tdiv5 {n : Int} (h : is64 n) : is64 (n.tdiv 5) := by
  have h5 : (n.tdiv 5).natAbs = n.natAbs / 5 := Int.natAbs_tdiv n 5
  obtain ⟨h1, h2⟩ := h
  constructor <;> omega

set_option maxRecDepth 4000 in
set_option maxHeartbeats 1000000 in
theorem c14 (l : List Int) (hl64 : ∀ n ∈ l, is64 n) (n₀ at₀ how₀ by₀ : Int) (hn64 : is64 n₀) (ha64 : is64 at₀) (hh64 : is64 how₀) (hb64 : is64 by₀) (ad : Option Addr) (c : Nat) (w0 : World) (hR : Ri w0 ad l.length c l) (hG : GH w0) (hGR : GR w0) :
    Calls Tryd.prog 14 #[.slice ad l.length c, I n₀, I at₀, I how₀, I by₀] w0 fun e w' => e = .returned (.bool true) ∧ Ext w0 w' := by
  refine start 147 Tryd.func14 rfl rfl rfl fun a hk => ?_
  have hB : Ext w0 w0 := Below.refl _ _
  refine wp_seq_k fun K1 hK1 => ?_
  refine wp_region_lit ?_
  refine ls hk rfl rfl rfl (e_assign hk rfl _) fun a hk => ?_
  refine lnil (hK1 _ _ ?_)
  refine wp_seq_k fun K2 hK2 => ?_
  refine wp_region_lit ?_
  refine ls hk rfl rfl rfl (e_move hk rfl _) fun a hk => ?_
  refine la hk rfl (a_call hk rfl rfl (c_fn hk rfl ok44) (c44 l hl64 ad c _ (Rd.ext hR hB)) ?_)
  rintro e w ⟨⟨ad2, c2, xs, rfl, hRx, h20, hL, hlt⟩, hE⟩
  refine ⟨_, rfl, fun a hk => ?_⟩
  have hB := ext_trans hB hE
  have hL1 := hL.1
  clear hE
  refine ls hk rfl rfl rfl (e_assign hk rfl _) fun a hk => ?_
  refine lnil (hK2 _ _ ?_)
  refine wp_seq_k fun K3 hK3 => ?_
  refine wp_region_lit ?_
  refine ls hk rfl rfl rfl (e_move hk rfl _) fun a hk => ?_
  refine ls hk rfl rfl rfl (e_move hk rfl _) fun a hk => ?_
  refine ls hk rfl rfl rfl (e_lenS hk rfl Tryd.underlying27 _) fun a hk => ?_
  refine ls hk rfl rfl rfl (e_add hk rfl rfl (i64 (by omega) (by omega)) _) fun a hk => ?_
  refine la hk rfl (a_call hk rfl rfl (c_fn hk rfl ok45) (c45 n₀ ((xs.length : Int) + 1) _ hn64) ?_)
  rintro e w ⟨rfl, hE⟩
  refine ⟨_, rfl, fun a hk => ?_⟩
  have hRx := hRx.ext hE
  have hlt := blk_ext hlt hE
  have hB := ext_trans hB hE
  obtain ⟨k, hqk, hzk⟩ : ∃ k : Nat, aroundS n₀ ((xs.length : Int) + 1) = k ∧ (k : Int) < ((xs.length : Int) + 1) := ⟨(aroundS n₀ ((xs.length : Int) + 1)).toNat, by rw [Int.toNat_of_nonneg (around_pos _ _)], by have := around_lt (n := n₀) (most := ((xs.length : Int) + 1)) (by omega); have := around_pos n₀ ((xs.length : Int) + 1); omega⟩
  rw [hqk] at hk
  clear hE
  refine ls hk rfl rfl rfl (e_assign hk rfl _) fun a hk => ?_
  refine lnil (hK3 _ _ ?_)
  refine wp_seq_k fun K4 hK4 => ?_
  refine wp_region_lit ?_
  refine ls hk rfl rfl rfl (e_move hk rfl _) fun a hk => ?_
  refine ls hk rfl rfl rfl (e_move hk rfl _) fun a hk => ?_
  refine la hk rfl (a_call hk rfl rfl (c_fn hk rfl ok51) (c51 xs hL ad2 c2 k _ hRx (hGR.ext hB)) ?_)
  rintro e w ⟨⟨adL, cL, he, hRa, hla⟩, hE⟩
  have hsh := long_short (d := 5) (xs := xs) (k := k) (by omega) (by omega)
  generalize longR xs k = LR at he hRa hsh
  obtain ⟨Ls, er⟩ := LR
  simp only at he hRa hsh
  subst he
  refine ⟨_, rfl, fun a hk => ?_⟩
  have hRx := hRx.ext hE
  have hlt := blk_ext hlt hE
  have hB := ext_trans hB hE
  clear hE
  refine ls hk rfl rfl rfl (e_move hk rfl _) fun a hk => ?_
  refine ls hk rfl rfl rfl (e_ext hk rfl rfl _) fun a hk => ?_
  refine ls hk rfl rfl rfl (e_ext hk rfl rfl _) fun a hk => ?_
  refine ls hk rfl rfl rfl (e_assign hk rfl _) fun a hk => ?_
  refine ls hk rfl rfl rfl (e_assign hk rfl _) fun a hk => ?_
  refine lnil (hK4 _ _ ?_)
  refine wp_seq_k fun K5 hK5 => ?_
  refine wp_region_lit ?_
  refine ls hk rfl rfl rfl (e_move hk rfl _) fun a hk => ?_
  refine ls hk rfl rfl rfl (e_move hk rfl _) fun a hk => ?_
  refine ls hk rfl rfl rfl (e_move hk rfl _) fun a hk => ?_
  refine ls hk rfl rfl rfl (e_move hk rfl _) fun a hk => ?_
  refine la hk rfl (a_call hk rfl rfl (c_fn hk rfl ok54) (c54 Ls at₀ how₀ by₀ ha64 hh64 hb64 adL cL _ hRa (by omega)) ?_)
  rintro e w ⟨⟨ad1, c1, s1, he, hRb, hs1, hlb⟩, hE⟩
  subst he
  refine ⟨_, rfl, fun a hk => ?_⟩
  have hRx := hRx.ext hE
  have hlt := blk_ext hlt hE
  have hRa := hRa.ext hE
  have hla := blk_ext hla hE
  have hB := ext_trans hB hE
  clear hE
  refine ls hk rfl rfl rfl (e_assign hk rfl _) fun a hk => ?_
  refine lnil (hK5 _ _ ?_)
  refine wp_seq_k fun K6 hK6 => ?_
  refine wp_region_lit ?_
  refine ls hk rfl rfl rfl (e_move hk rfl _) fun a hk => ?_
  refine ls hk rfl rfl rfl (e_move hk rfl _) fun a hk => ?_
  refine ls hk rfl rfl rfl (e_move hk rfl _) fun a hk => ?_
  refine ls hk rfl rfl rfl (e_move hk rfl _) fun a hk => ?_
  refine ls hk rfl rfl rfl (e_move hk rfl _) fun a hk => ?_
  refine ls hk rfl rfl rfl (e_quo (q := how₀.tdiv 5) hk rfl rfl (by decide) (i64 (tdiv5 hh64).1 (tdiv5 hh64).2) _) fun a hk => ?_
  refine ls hk rfl rfl rfl (e_move hk rfl _) fun a hk => ?_
  refine la hk rfl (a_call hk rfl rfl (c_fn hk rfl ok54) (c54 s1 by₀ (how₀.tdiv 5) at₀ hb64 (tdiv5 hh64) ha64 ad1 c1 _ hRb (by omega)) ?_)
  rintro e w ⟨⟨ad3, c3, s3, he, hRc, hs3, hlc⟩, hE⟩
  subst he
  refine ⟨_, rfl, fun a hk => ?_⟩
  have hRx := hRx.ext hE
  have hlt := blk_ext hlt hE
  have hRa := hRa.ext hE
  have hla := blk_ext hla hE
  have hRb := hRb.ext hE
  have hlb := blk_ext hlb hE
  have hB := ext_trans hB hE
  clear hE
  refine la hk rfl (a_lit (cells := ([.slice adL Ls.length cL, .slice ad1 s1.length c1, .slice ad3 s3.length c3, .slice none 0 0].toArray)) (zv := .slice none 0 0) (sz := 1) (by_ := 24) hk rfl rfl Tryd.underlying86 el69 (by decide) (by decide) (by have h := lit_all 1 [.slice adL Ls.length cL, .slice ad1 s1.length c1, .slice ad3 s3.length c3, .slice none 0 0] (by simp [Value.cells, *]) 4 rfl (.slice none 0 0); exact h.trans (congrArg some (by simp [Value.cells]))) (by simp [*]) fun a w bL hk G => ?_)
  have k_hRx_bL := rd_keep hRx G
  have k_hRa_bL := rdg_keep hRa G
  have k_hRb_bL := rdg_keep hRb G
  have k_hRc_bL := rdg_keep hRc G
  have hg_bL : w0.heap.size ≤ bL := Nat.le_trans hB.size G.ge
  have hRx := hRx.ext G.ext
  have hlt := blk_ext hlt G.ext
  have hRa := hRa.ext G.ext
  have hla := blk_ext hla G.ext
  have hRb := hRb.ext G.ext
  have hlb := blk_ext hlb G.ext
  have hRc := hRc.ext G.ext
  have hlc := blk_ext hlc G.ext
  have hB := ext_trans hB G.ext
  have h_bL := G.at_
  clear G
  refine ls hk rfl rfl rfl (e_assign hk rfl _) fun a hk => ?_
  refine lnil (hK6 _ _ ?_)
  refine wp_seq_k fun K7 hK7 => ?_
  have hlk : (xs.take k).length = k := by simp; omega
  refine wp_region_lit ?_
  refine ls hk rfl rfl rfl (e_move hk rfl _) fun a hk => ?_
  refine ls hk rfl rfl rfl (e_move hk rfl _) fun a hk => ?_
  refine ls hk rfl rfl rfl (e_slSto hk rfl rfl Tryd.underlying27 sz9 (by omega) (by have := hRx.2.1; omega) _) fun a hk => ?_
  have hRk := sub_to hRx (k := k) (by omega)
  rw [← List.map_take] at hRk
  rw [Int.toNat_natCast] at hk
  generalize (if c2 = 0 then ad2 else ad2.map (·.add 0)) = adk at hk hRk
  have hk := hk.lift 51 (v := .slice adk (xs.take (k)).length c2) (by rw [hlk]; rfl)
  have hRk : Rs w adk (xs.take (k)).length c2 (xs.take (k)) := by rw [hlk]; exact hRk
  refine la hk rfl (a_call hk rfl rfl (c_fn hk rfl ok47) (c47 _ (xs.take k) adk c2 _ rfl ⟨by omega, fun x hx => hL.2 x (List.mem_of_mem_take hx)⟩ hRk (hGR.ext hB)) ?_)
  rintro e w ⟨rfl, hE⟩
  refine ⟨_, rfl, fun a hk => ?_⟩
  have hRx := hRx.ext hE
  have hlt := blk_ext hlt hE
  have hRa := hRa.ext hE
  have hla := blk_ext hla hE
  have hRb := hRb.ext hE
  have hlb := blk_ext hlb hE
  have hRc := hRc.ext hE
  have hlc := blk_ext hlc hE
  have h_bL := ext_at hE h_bL
  have hB := ext_trans hB hE
  clear hE
  refine ls hk rfl rfl rfl (e_move hk rfl _) fun a hk => ?_
  refine la hk rfl (a_call hk rfl rfl (c_fn hk rfl ok47) (c47 _ xs ad2 c2 _ rfl hL hRx (hGR.ext hB)) ?_)
  rintro e w ⟨rfl, hE⟩
  refine ⟨_, rfl, fun a hk => ?_⟩
  have hRx := hRx.ext hE
  have hlt := blk_ext hlt hE
  have hRa := hRa.ext hE
  have hla := blk_ext hla hE
  have hRb := hRb.ext hE
  have hlb := blk_ext hlb hE
  have hRc := hRc.ext hE
  have hlc := blk_ext hlc hE
  have h_bL := ext_at hE h_bL
  have hB := ext_trans hB hE
  clear hE
  refine la hk rfl (a_lit (cells := ((digs16 [rootS (xs.take k), rootS xs]).toArray)) (zv := .agg (List.replicate 16 (Value.int .u8 0)).toArray) (sz := 16) (by_ := 16) hk rfl rfl Tryd.underlying69 el44 (by decide) (by decide) (by have h := lit_all 16 [D (rootS (xs.take k)), D (rootS xs)] (by simp [Value.cells, *]) 2 rfl (.agg (List.replicate 16 (Value.int .u8 0)).toArray); exact h.trans (congrArg some (by simp [Value.cells, digs16]))) (by simp [digs16, *]) fun a w bo hk G => ?_)
  have k_hRx_bo := rd_keep hRx G
  have k_hRa_bo := rdg_keep hRa G
  have k_hRb_bo := rdg_keep hRb G
  have k_hRc_bo := rdg_keep hRc G
  have n_bL_bo : bL ≠ bo := G.ne h_bL
  have hg_bo : w0.heap.size ≤ bo := Nat.le_trans hB.size G.ge
  have hRx := hRx.ext G.ext
  have hlt := blk_ext hlt G.ext
  have hRa := hRa.ext G.ext
  have hla := blk_ext hla G.ext
  have hRb := hRb.ext G.ext
  have hlb := blk_ext hlb G.ext
  have hRc := hRc.ext G.ext
  have hlc := blk_ext hlc G.ext
  have h_bL := ext_at G.ext h_bL
  have hB := ext_trans hB G.ext
  have h_bo := G.at_
  clear G
  refine ls hk rfl rfl rfl (e_assign hk rfl _) fun a hk => ?_
  refine lnil (hK7 _ _ ?_)
  refine wp_seq_k fun K8 hK8 => ?_
  refine wp_region_lit ?_
  refine ls hk rfl rfl rfl (e_move hk rfl _) fun a hk => ?_
  refine ls hk rfl rfl rfl (e_move hk rfl _) fun a hk => ?_
  refine ls hk rfl rfl rfl (e_lenS hk rfl Tryd.underlying27 _) fun a hk => ?_
  refine ls hk rfl rfl rfl (e_buildA (cells := #[I ((k : Int)), I ((xs.length : Int))]) hk rfl zr66 Tryd.underlying66 sz3 rfl _) fun a hk => ?_
  refine ls hk rfl rfl rfl (e_move hk rfl _) fun a hk => ?_
  refine ls hk rfl rfl rfl (e_move hk rfl _) fun a hk => ?_
  refine la hk rfl (a_call hk rfl rfl (c_fn hk rfl ok45) (c45 by₀ 3 _ hb64) ?_)
  rintro e w ⟨rfl, hE⟩
  refine ⟨_, rfl, fun a hk => ?_⟩
  have hRx := hRx.ext hE
  have hlt := blk_ext hlt hE
  have hRa := hRa.ext hE
  have hla := blk_ext hla hE
  have hRb := hRb.ext hE
  have hlb := blk_ext hlb hE
  have hRc := hRc.ext hE
  have hlc := blk_ext hlc hE
  have h_bL := ext_at hE h_bL
  have h_bo := ext_at hE h_bo
  have hB := ext_trans hB hE
  obtain ⟨u, hqu, hzu⟩ : ∃ k : Nat, aroundS by₀ (3 : Int) = k ∧ (k : Int) < (3 : Int) := ⟨(aroundS by₀ (3 : Int)).toNat, by rw [Int.toNat_of_nonneg (around_pos _ _)], by have := around_lt (n := by₀) (most := (3 : Int)) (by omega); have := around_pos by₀ (3 : Int); omega⟩
  rw [hqu] at hk
  clear hE
  refine ls hk rfl rfl rfl (e_add hk rfl rfl (i64 (by omega) (by omega)) _) fun a hk => ?_
  refine ls hk rfl rfl rfl (e_sub hk rfl rfl (i64 (by omega) (by omega)) _) fun a hk => ?_
  refine ls hk rfl rfl rfl (e_move hk rfl _) fun a hk => ?_
  refine ls hk rfl rfl rfl (e_lenS hk rfl Tryd.underlying27 _) fun a hk => ?_
  refine ls hk rfl rfl rfl (e_buildA (cells := #[I ((k : Int) + u - 1), I ((xs.length : Int))]) hk rfl zr66 Tryd.underlying66 sz3 rfl _) fun a hk => ?_
  refine ls hk rfl rfl rfl (e_move hk rfl _) fun a hk => ?_
  refine ls hk rfl rfl rfl (e_move hk rfl _) fun a hk => ?_
  refine ls hk rfl rfl rfl (e_lenS hk rfl Tryd.underlying27 _) fun a hk => ?_
  refine ls hk rfl rfl rfl (e_move hk rfl _) fun a hk => ?_
  refine la hk rfl (a_call hk rfl rfl (c_fn hk rfl ok45) (c45 by₀ 3 _ hb64) ?_)
  rintro e w ⟨rfl, hE⟩
  refine ⟨_, rfl, fun a hk => ?_⟩
  have hRx := hRx.ext hE
  have hlt := blk_ext hlt hE
  have hRa := hRa.ext hE
  have hla := blk_ext hla hE
  have hRb := hRb.ext hE
  have hlb := blk_ext hlb hE
  have hRc := hRc.ext hE
  have hlc := blk_ext hlc hE
  have h_bL := ext_at hE h_bL
  have h_bo := ext_at hE h_bo
  have hB := ext_trans hB hE
  obtain ⟨v, hqv, hzv⟩ : ∃ k : Nat, aroundS by₀ (3 : Int) = k ∧ (k : Int) < (3 : Int) := ⟨(aroundS by₀ (3 : Int)).toNat, by rw [Int.toNat_of_nonneg (around_pos _ _)], by have := around_lt (n := by₀) (most := (3 : Int)) (by omega); have := around_pos by₀ (3 : Int); omega⟩
  rw [hqv] at hk
  clear hE
  refine ls hk rfl rfl rfl (e_add hk rfl rfl (i64 (by omega) (by omega)) _) fun a hk => ?_
  refine ls hk rfl rfl rfl (e_sub hk rfl rfl (i64 (by omega) (by omega)) _) fun a hk => ?_
  refine ls hk rfl rfl rfl (e_buildA (cells := #[I ((k : Int)), I ((xs.length : Int) + v - 1)]) hk rfl zr66 Tryd.underlying66 sz3 rfl _) fun a hk => ?_
  refine ls hk rfl rfl rfl (e_move hk rfl _) fun a hk => ?_
  refine ls hk rfl rfl rfl (e_move hk rfl _) fun a hk => ?_
  refine ls hk rfl rfl rfl (e_buildA (cells := #[I (at₀), I (by₀)]) hk rfl zr66 Tryd.underlying66 sz3 rfl _) fun a hk => ?_
  refine ls hk rfl rfl rfl (e_buildA (cells := #[I (0), I (0)]) hk rfl zr66 Tryd.underlying66 sz3 rfl _) fun a hk => ?_
  refine ls hk rfl rfl rfl (e_move hk rfl _) fun a hk => ?_
  refine ls hk rfl rfl rfl (e_buildA (cells := #[I ((k : Int)), I (1073741824)]) hk rfl zr66 Tryd.underlying66 sz3 rfl _) fun a hk => ?_
  refine ls hk rfl rfl rfl (e_move hk rfl _) fun a hk => ?_
  refine ls hk rfl rfl rfl (e_buildA (cells := #[I ((k : Int)), I (1073741825)]) hk rfl zr66 Tryd.underlying66 sz3 rfl _) fun a hk => ?_
  refine la hk rfl (a_lit (cells := ((ip [((k : Int), (xs.length : Int)), ((k : Int) + u - 1, (xs.length : Int)), ((k : Int), (xs.length : Int) + v - 1), (at₀, by₀), (0, 0), ((k : Int), 1073741824), ((k : Int), 1073741825)]).toArray)) (zv := .agg (List.replicate 2 (Value.int .i64 0)).toArray) (sz := 2) (by_ := 16) hk rfl rfl Tryd.underlying67 el66 (by decide) (by decide) (by have h := lit_all 2 [.agg #[I ((k : Int)), I ((xs.length : Int))], .agg #[I ((k : Int) + u - 1), I ((xs.length : Int))], .agg #[I ((k : Int)), I ((xs.length : Int) + v - 1)], .agg #[I (at₀), I (by₀)], .agg #[I (0), I (0)], .agg #[I ((k : Int)), I (1073741824)], .agg #[I ((k : Int)), I (1073741825)]] (by simp [Value.cells, *]) 7 rfl (.agg (List.replicate 2 (Value.int .i64 0)).toArray); exact h.trans (congrArg some (by simp [Value.cells, ip]))) (by simp [ip, *]) fun a w bs hk G => ?_)
  have k_hRx_bs := rd_keep hRx G
  have k_hRa_bs := rdg_keep hRa G
  have k_hRb_bs := rdg_keep hRb G
  have k_hRc_bs := rdg_keep hRc G
  have n_bL_bs : bL ≠ bs := G.ne h_bL
  have n_bo_bs : bo ≠ bs := G.ne h_bo
  have hg_bs : w0.heap.size ≤ bs := Nat.le_trans hB.size G.ge
  have hRx := hRx.ext G.ext
  have hlt := blk_ext hlt G.ext
  have hRa := hRa.ext G.ext
  have hla := blk_ext hla G.ext
  have hRb := hRb.ext G.ext
  have hlb := blk_ext hlb G.ext
  have hRc := hRc.ext G.ext
  have hlc := blk_ext hlc G.ext
  have h_bL := ext_at G.ext h_bL
  have h_bo := ext_at G.ext h_bo
  have hB := ext_trans hB G.ext
  have h_bs := G.at_
  clear G
  refine ls hk rfl rfl rfl (e_assign hk rfl _) fun a hk => ?_
  refine lnil (hK8 _ _ ?_)
  refine wp_seq_k fun K9 hK9 => ?_
  refine wp_seq_k fun K10 hK10 => ?_
  have hRo : Rdg w (some ⟨bo, 0, none⟩) 2 2 [rootS (xs.take k), rootS xs] := rdg_lits h_bo (by simp) (by simp [digs16])
  obtain ⟨DS, hDS⟩ : ∃ DS, DS = [rootS (xs.take k), rootS xs] := ⟨_, rfl⟩
  obtain ⟨NS, hNS⟩ : ∃ NS : List (Int × Int), NS = [((k : Int), (xs.length : Int)), ((k : Int) + u - 1, (xs.length : Int)), ((k : Int), (xs.length : Int) + v - 1), (at₀, by₀), (0, 0), ((k : Int), 1073741824), ((k : Int), 1073741825)] := ⟨_, rfl⟩
  have hD16 : ∀ q, q < 2 → (DS.getD q []).length = 16 := by
    intro q hq
    subst hDS
    match q, hq with
    | 0, _ => exact (show (rootS _).length = 16 by simp)
    | 1, _ => exact (show (rootS _).length = 16 by simp)
  have hNl : NS.length = 7 := by rw [hNS]; rfl
  have hN64 : ∀ p ∈ NS, is64 p.1 ∧ is64 p.2 := by
    intro p hp
    obtain ⟨ha1, ha2⟩ := ha64
    obtain ⟨hb1, hb2⟩ := hb64
    rw [hNS] at hp
    simp only [List.mem_cons, List.not_mem_nil, or_false] at hp
    rcases hp with rfl | rfl | rfl | rfl | rfl | rfl | rfl <;> exact ⟨⟨by simp only []; omega, by simp only []; omega⟩, ⟨by simp only []; omega, by simp only []; omega⟩⟩
  rw [← hDS] at hRo
  rw [← hNS] at h_bs
  clear hNS hDS
  refine wp_region_lit ?_
  refine ls hk rfl rfl rfl (e_assign hk rfl _) fun a hk => ?_
  refine lnil (hK10 _ _ ?_)
  refine wp_block ?_
  refine loopN (fun n a w => ∃ i : Nat, n = 4 - i ∧ i ≤ 4 ∧ Kn a 147 [(16, .slice (some ⟨bL, 0, none⟩) 4 4), (17, .slice (some ⟨bo, 0, none⟩) 2 2), (18, .slice (some ⟨bs, 0, none⟩) 7 7), (19, I i)] ∧ (Ext w0 w) ∧ (Rdg w adL Ls.length cL Ls) ∧ (∀ b o, adL = some ⟨b, o, none⟩ → b < w.heap.size) ∧ (Rdg w ad1 s1.length c1 s1) ∧ (∀ b o, ad1 = some ⟨b, o, none⟩ → b < w.heap.size) ∧ (Rdg w ad3 s3.length c3 s3) ∧ (∀ b o, ad3 = some ⟨b, o, none⟩ → b < w.heap.size) ∧ (Rdg w (some ⟨bo, 0, none⟩) 2 2 DS) ∧ (w.heap[bs]? = some (.cells (ip NS).toArray 66 (0, 0))) ∧ (w.heap[bL]? = some (.cells [.slice adL Ls.length cL, .slice ad1 s1.length c1, .slice ad3 s3.length c3, .slice none 0 0].toArray 69 (0, 0)))) (4 - 0) ?_ fun n a w hI => ?_
  · exact ⟨0, rfl, by omega, hk.sub _ ⟨rfl, rfl, rfl, rfl, trivial⟩, hB, hRa, hla, hRb, hlb, hRc, hlc, hRo, h_bs, h_bL⟩
  clear hk hB hRa hla hRb hlb hRc hlc h_bs h_bL hRx hlt h_bo
  obtain ⟨i, rfl, hi_le, hk, hB, hRa, hla, hRb, hlb, hRc, hlc, hRo, h_bs, h_bL⟩ := hI
  refine wp_seq_k fun K11 hK11 => ?_
  refine wp_seq_k fun K12 hK12 => ?_
  refine wp_region_lit ?_
  refine ls hk rfl rfl rfl (e_move hk rfl _) fun a hk => ?_
  refine ls hk rfl rfl rfl (e_move hk rfl _) fun a hk => ?_
  refine ls hk rfl rfl rfl (e_lenS hk rfl Tryd.underlying86 _) fun a hk => ?_
  refine ls hk rfl rfl rfl (e_lss hk rfl rfl rfl _) fun a hk => ?_
  refine lnil (hK12 _ _ ?_)
  refine cdB hk rfl (fun hb => ?_) (fun hb => ?_)
  · have hi4 : i < 4 := by have := of_decide_eq_true hb; omega
    refine wp_skip (hK11 _ _ ?_)
    refine wp_seq_k fun K13 hK13 => ?_
    refine wp_block ?_
    refine wp_seq_k fun K14 hK14 => ?_
    obtain ⟨li, adi, ci, hci, hRi, hli, hln⟩ : ∃ (li : List (List UInt8)) (adi : Option Addr) (ci : Nat), [.slice adL Ls.length cL, .slice ad1 s1.length c1, .slice ad3 s3.length c3, .slice none 0 0][i]? = some (Value.slice adi li.length ci) ∧ Rdg w adi li.length ci li ∧ (∀ b o, adi = some ⟨b, o, none⟩ → b < w.heap.size) ∧ li.length ≤ 100 := by
      match i, hi4 with
      | 0, _ => exact ⟨Ls, adL, cL, rfl, hRa, hla, by omega⟩
      | 1, _ => exact ⟨s1, ad1, c1, rfl, hRb, hlb, by omega⟩
      | 2, _ => exact ⟨s3, ad3, c3, rfl, hRc, hlc, by omega⟩
      | 3, _ => exact ⟨[], none, 0, rfl, rdg_nil, by simp, by simp⟩
    refine wp_region_lit ?_
    refine ls hk rfl rfl rfl (e_assign hk rfl _) fun a hk => ?_
    refine lnil (hK14 _ _ ?_)
    refine wp_block ?_
    refine loopN (fun n a w => ∃ j : Nat, n = 7 - j ∧ j ≤ 7 ∧ Kn a 147 [(16, .slice (some ⟨bL, 0, none⟩) 4 4), (17, .slice (some ⟨bo, 0, none⟩) 2 2), (18, .slice (some ⟨bs, 0, none⟩) 7 7), (19, I i), (20, I j)] ∧ (Ext w0 w) ∧ (Rdg w adL Ls.length cL Ls) ∧ (∀ b o, adL = some ⟨b, o, none⟩ → b < w.heap.size) ∧ (Rdg w ad1 s1.length c1 s1) ∧ (∀ b o, ad1 = some ⟨b, o, none⟩ → b < w.heap.size) ∧ (Rdg w ad3 s3.length c3 s3) ∧ (∀ b o, ad3 = some ⟨b, o, none⟩ → b < w.heap.size) ∧ (Rdg w (some ⟨bo, 0, none⟩) 2 2 DS) ∧ (w.heap[bs]? = some (.cells (ip NS).toArray 66 (0, 0))) ∧ (w.heap[bL]? = some (.cells [.slice adL Ls.length cL, .slice ad1 s1.length c1, .slice ad3 s3.length c3, .slice none 0 0].toArray 69 (0, 0))) ∧ (Rdg w adi li.length ci li) ∧ (∀ b o, adi = some ⟨b, o, none⟩ → b < w.heap.size)) (7 - 0) ?_ fun n a w hI => ?_
    · exact ⟨0, rfl, by omega, hk.sub _ ⟨rfl, rfl, rfl, rfl, rfl, trivial⟩, hB, hRa, hla, hRb, hlb, hRc, hlc, hRo, h_bs, h_bL, hRi, hli⟩
    clear hk hB hRa hla hRb hlb hRc hlc hRo h_bs h_bL
    obtain ⟨j, rfl, hi_le, hk, hB, hRa, hla, hRb, hlb, hRc, hlc, hRo, h_bs, h_bL, hRi, hli⟩ := hI
    refine wp_seq_k fun K15 hK15 => ?_
    refine wp_seq_k fun K16 hK16 => ?_
    refine wp_region_lit ?_
    refine ls hk rfl rfl rfl (e_move hk rfl _) fun a hk => ?_
    refine ls hk rfl rfl rfl (e_move hk rfl _) fun a hk => ?_
    refine ls hk rfl rfl rfl (e_lenS hk rfl Tryd.underlying67 _) fun a hk => ?_
    refine ls hk rfl rfl rfl (e_lss hk rfl rfl rfl _) fun a hk => ?_
    refine lnil (hK16 _ _ ?_)
    refine cdB hk rfl (fun hb => ?_) (fun hb => ?_)
    · have hj7 : j < 7 := by have := of_decide_eq_true hb; omega
      refine wp_skip (hK15 _ _ ?_)
      refine wp_seq_k fun K17 hK17 => ?_
      refine wp_block ?_
      refine wp_seq_k fun K18 hK18 => ?_
      obtain ⟨hn1, hn2⟩ := hN64 (NS.getD j (0, 0)) (by rw [List.getD_eq_getElem?_getD, List.getElem?_eq_getElem (by omega)]; exact List.getElem_mem _)
      refine wp_region_lit ?_
      refine ls hk rfl rfl rfl (e_assign hk rfl _) fun a hk => ?_
      refine lnil (hK18 _ _ ?_)
      refine wp_block ?_
      refine loopN (fun n a w => ∃ q : Nat, n = 2 - q ∧ q ≤ 2 ∧ Kn a 147 [(16, .slice (some ⟨bL, 0, none⟩) 4 4), (17, .slice (some ⟨bo, 0, none⟩) 2 2), (18, .slice (some ⟨bs, 0, none⟩) 7 7), (19, I i), (20, I j), (21, I q)] ∧ (Ext w0 w) ∧ (Rdg w adL Ls.length cL Ls) ∧ (∀ b o, adL = some ⟨b, o, none⟩ → b < w.heap.size) ∧ (Rdg w ad1 s1.length c1 s1) ∧ (∀ b o, ad1 = some ⟨b, o, none⟩ → b < w.heap.size) ∧ (Rdg w ad3 s3.length c3 s3) ∧ (∀ b o, ad3 = some ⟨b, o, none⟩ → b < w.heap.size) ∧ (Rdg w (some ⟨bo, 0, none⟩) 2 2 DS) ∧ (w.heap[bs]? = some (.cells (ip NS).toArray 66 (0, 0))) ∧ (w.heap[bL]? = some (.cells [.slice adL Ls.length cL, .slice ad1 s1.length c1, .slice ad3 s3.length c3, .slice none 0 0].toArray 69 (0, 0))) ∧ (Rdg w adi li.length ci li) ∧ (∀ b o, adi = some ⟨b, o, none⟩ → b < w.heap.size)) (2 - 0) ?_ fun n a w hI => ?_
      · exact ⟨0, rfl, by omega, hk.sub _ ⟨rfl, rfl, rfl, rfl, rfl, rfl, trivial⟩, hB, hRa, hla, hRb, hlb, hRc, hlc, hRo, h_bs, h_bL, hRi, hli⟩
      clear hk hB hRa hla hRb hlb hRc hlc hRo h_bs h_bL hRi hli
      obtain ⟨q, rfl, hi_le, hk, hB, hRa, hla, hRb, hlb, hRc, hlc, hRo, h_bs, h_bL, hRi, hli⟩ := hI
      refine wp_seq_k fun K19 hK19 => ?_
      refine wp_seq_k fun K20 hK20 => ?_
      refine wp_region_lit ?_
      refine ls hk rfl rfl rfl (e_move hk rfl _) fun a hk => ?_
      refine ls hk rfl rfl rfl (e_lss hk rfl rfl rfl _) fun a hk => ?_
      refine lnil (hK20 _ _ ?_)
      refine cdB hk rfl (fun hb => ?_) (fun hb => ?_)
      · have hq2 : q < 2 := by have := of_decide_eq_true hb; omega
        refine wp_skip (hK19 _ _ ?_)
        refine wp_seq_k fun K21 hK21 => ?_
        refine wp_block ?_
        refine wp_seq_k fun K22 hK22 => ?_
        refine wp_region_ok (fun w => Rdg w (some ⟨bo, 0, none⟩) 2 2 DS ∧ w.heap[bs]? = some (.cells (ip NS).toArray 66 (0, 0)) ∧ w.heap[bL]? = some (.cells [.slice adL Ls.length cL, .slice ad1 s1.length c1, .slice ad3 s3.length c3, .slice none 0 0].toArray 69 (0, 0))) [0, 0, 0, 1, 0, 0, 1, 0, 0, 0, 0, 1, 0, 0, 0, 0, 1, 0, 0, 0, 1, 4, 0, 0, 0, 3, 0, 0, 3, 0, 0, 0, 0, 3, 0, 0, 0, 0, 3, 0, 0, 0, 3, 2, 0] mixed ?_
        have hB := hB.drew
        have hRa := hRa.ext (ext_drew w)
        have hla := blk_ext hla (ext_drew w)
        have hRb := hRb.ext (ext_drew w)
        have hlb := blk_ext hlb (ext_drew w)
        have hRc := hRc.ext (ext_drew w)
        have hlc := blk_ext hlc (ext_drew w)
        have hRo := hRo.ext (ext_drew w)
        have h_bs := ext_at (ext_drew w) h_bs
        have h_bL := ext_at (ext_drew w) h_bL
        have hRi := hRi.ext (ext_drew w)
        have hli := blk_ext hli (ext_drew w)
        have hS : (fun w => Rdg w (some ⟨bo, 0, none⟩) 2 2 DS ∧ w.heap[bs]? = some (.cells (ip NS).toArray 66 (0, 0)) ∧ w.heap[bL]? = some (.cells [.slice adL Ls.length cL, .slice ad1 s1.length c1, .slice ad3 s3.length c3, .slice none 0 0].toArray 69 (0, 0))) w.drew := ⟨hRo, h_bs, h_bL⟩
        refine d0 0 hk rfl (chkN_ok (by as_aux_lemma => kernel_rfl)) rfl rfl rfl rfl (fun _ => e_move hk rfl _) fun a hk => ?_
        refine d0 1 hk rfl (chkN_ok (by as_aux_lemma => kernel_rfl)) rfl rfl rfl rfl (fun _ => e_move hk rfl _) fun a hk => ?_
        refine d0 2 hk rfl (chkN_ok (by as_aux_lemma => kernel_rfl)) rfl rfl rfl rfl (fun _ => e_idxSn q hk rfl rfl Tryd.underlying69 sz44 rfl hq2 _) fun a hk => ?_
        refine d1 3 hk rfl (chkN_ok (by as_aux_lemma => kernel_rfl)) rfl rfl rfl rfl (r_ldR44 (l := (DS.getD q [])) hk rfl (rdg_at hRo q hq2) (hD16 q hq2)) fun a hk => ?_
        refine d0 4 hk rfl (chkN_ok (by as_aux_lemma => kernel_rfl)) rfl rfl rfl rfl (fun _ => e_move hk rfl _) fun a hk => ?_
        refine d0 5 hk rfl (chkN_ok (by as_aux_lemma => kernel_rfl)) rfl rfl rfl rfl (fun _ => e_idxSn 1 hk rfl rfl Tryd.underlying69 sz44 rfl (by decide) _) fun a hk => ?_
        refine d1 6 hk rfl (chkN_ok (by as_aux_lemma => kernel_rfl)) rfl rfl rfl rfl (r_ldR44 (l := (DS.getD 1 [])) hk rfl (rdg_at hRo 1 (by decide)) (hD16 1 (by decide))) fun a hk => ?_
        refine d0 7 hk rfl (chkN_ok (by as_aux_lemma => kernel_rfl)) rfl rfl rfl rfl (fun _ => e_move hk rfl _) fun a hk => ?_
        refine d0 8 hk rfl (chkN_ok (by as_aux_lemma => kernel_rfl)) rfl rfl rfl rfl (fun _ => e_move hk rfl _) fun a hk => ?_
        refine d0 9 hk rfl (chkN_ok (by as_aux_lemma => kernel_rfl)) rfl rfl rfl rfl (fun _ => e_idxSn j hk rfl rfl Tryd.underlying67 sz66 rfl hj7 _) fun a hk => ?_
        refine d0 10 hk rfl (chkN_ok (by as_aux_lemma => kernel_rfl)) rfl rfl rfl rfl (fun _ => e_idxAn 0 hk rfl rfl Tryd.underlying66 sz3 rfl (by decide) _) fun a hk => ?_
        refine d1 11 hk rfl (chkN_ok (by as_aux_lemma => kernel_rfl)) rfl rfl rfl rfl (r_load1 hk rfl Tryd.underlying3 rfl (ip_c1 h_bs j (by omega))) fun a hk => ?_
        refine d0 12 hk rfl (chkN_ok (by as_aux_lemma => kernel_rfl)) rfl rfl rfl rfl (fun _ => e_move hk rfl _) fun a hk => ?_
        refine d0 13 hk rfl (chkN_ok (by as_aux_lemma => kernel_rfl)) rfl rfl rfl rfl (fun _ => e_move hk rfl _) fun a hk => ?_
        refine d0 14 hk rfl (chkN_ok (by as_aux_lemma => kernel_rfl)) rfl rfl rfl rfl (fun _ => e_idxSn j hk rfl rfl Tryd.underlying67 sz66 rfl hj7 _) fun a hk => ?_
        refine d0 15 hk rfl (chkN_ok (by as_aux_lemma => kernel_rfl)) rfl rfl rfl rfl (fun _ => e_idxAn 1 hk rfl rfl Tryd.underlying66 sz3 rfl (by decide) _) fun a hk => ?_
        refine d1 16 hk rfl (chkN_ok (by as_aux_lemma => kernel_rfl)) rfl rfl rfl rfl (r_load1 hk rfl Tryd.underlying3 rfl (ip_c2 h_bs j (by omega))) fun a hk => ?_
        refine d0 17 hk rfl (chkN_ok (by as_aux_lemma => kernel_rfl)) rfl rfl rfl rfl (fun _ => e_move hk rfl _) fun a hk => ?_
        refine d0 18 hk rfl (chkN_ok (by as_aux_lemma => kernel_rfl)) rfl rfl rfl rfl (fun _ => e_move hk rfl _) fun a hk => ?_
        refine d0 19 hk rfl (chkN_ok (by as_aux_lemma => kernel_rfl)) rfl rfl rfl rfl (fun _ => e_idxSn i hk rfl rfl Tryd.underlying86 sz69 rfl hi4 _) fun a hk => ?_
        refine d1 20 hk rfl (chkN_ok (by as_aux_lemma => kernel_rfl)) rfl rfl rfl rfl (r_load1 hk rfl Tryd.underlying69 rfl (row_c h_bL i hci)) fun a hk => ?_
        refine da4 21 hk rfl (chkN_ok (by as_aux_lemma => kernel_rfl)) rfl rfl hS (a_call hk rfl rfl (c_fn hk rfl ok57) (c57 (DS.getD q []) (DS.getD 1 []) (hD16 q hq2) (hD16 1 (by decide)) _ _ li adi ci _ hRi hli (by omega) (hG.ext hB) hn1 hn2) ?_)
        rintro e w ⟨rfl, hE⟩
        refine ⟨_, rfl, fun a hk => ⟨⟨Rdg.ext hS.1 hE, ext_at hE hS.2.1, ext_at hE hS.2.2⟩, ?_⟩⟩
        have hS : (fun w => Rdg w (some ⟨bo, 0, none⟩) 2 2 DS ∧ w.heap[bs]? = some (.cells (ip NS).toArray 66 (0, 0)) ∧ w.heap[bL]? = some (.cells [.slice adL Ls.length cL, .slice ad1 s1.length c1, .slice ad3 s3.length c3, .slice none 0 0].toArray 69 (0, 0))) w := ⟨Rdg.ext hS.1 hE, ext_at hE hS.2.1, ext_at hE hS.2.2⟩
        have hRa := hRa.ext hE
        have hla := blk_ext hla hE
        have hRb := hRb.ext hE
        have hlb := blk_ext hlb hE
        have hRc := hRc.ext hE
        have hlc := blk_ext hlc hE
        have hRo := hRo.ext hE
        have h_bs := ext_at hE h_bs
        have h_bL := ext_at hE h_bL
        have hRi := hRi.ext hE
        have hli := blk_ext hli hE
        have hB := ext_trans hB hE
        clear hE
        refine d0 22 hk rfl (chkN_ok (by as_aux_lemma => kernel_rfl)) rfl rfl rfl rfl (fun _ => e_move hk rfl _) fun a hk => ?_
        refine d0 23 hk rfl (chkN_ok (by as_aux_lemma => kernel_rfl)) rfl rfl rfl rfl (fun _ => e_move hk rfl _) fun a hk => ?_
        refine d0 24 hk rfl (chkN_ok (by as_aux_lemma => kernel_rfl)) rfl rfl rfl rfl (fun _ => e_idxSn q hk rfl rfl Tryd.underlying69 sz44 rfl hq2 _) fun a hk => ?_
        refine d3 25 hk rfl (chkN_ok (by as_aux_lemma => kernel_rfl)) rfl rfl rfl rfl hS (fun w hS => r_ldR44 (l := (DS.getD q [])) hk rfl (rdg_at hS.1 q hq2) (hD16 q hq2)) fun a hk => ?_
        refine d0 26 hk rfl (chkN_ok (by as_aux_lemma => kernel_rfl)) rfl rfl rfl rfl (fun _ => e_move hk rfl _) fun a hk => ?_
        refine d0 27 hk rfl (chkN_ok (by as_aux_lemma => kernel_rfl)) rfl rfl rfl rfl (fun _ => e_idxSn 1 hk rfl rfl Tryd.underlying69 sz44 rfl (by decide) _) fun a hk => ?_
        refine d3 28 hk rfl (chkN_ok (by as_aux_lemma => kernel_rfl)) rfl rfl rfl rfl hS (fun w hS => r_ldR44 (l := (DS.getD 1 [])) hk rfl (rdg_at hS.1 1 (by decide)) (hD16 1 (by decide))) fun a hk => ?_
        refine d0 29 hk rfl (chkN_ok (by as_aux_lemma => kernel_rfl)) rfl rfl rfl rfl (fun _ => e_move hk rfl _) fun a hk => ?_
        refine d0 30 hk rfl (chkN_ok (by as_aux_lemma => kernel_rfl)) rfl rfl rfl rfl (fun _ => e_move hk rfl _) fun a hk => ?_
        refine d0 31 hk rfl (chkN_ok (by as_aux_lemma => kernel_rfl)) rfl rfl rfl rfl (fun _ => e_idxSn j hk rfl rfl Tryd.underlying67 sz66 rfl hj7 _) fun a hk => ?_
        refine d0 32 hk rfl (chkN_ok (by as_aux_lemma => kernel_rfl)) rfl rfl rfl rfl (fun _ => e_idxAn 0 hk rfl rfl Tryd.underlying66 sz3 rfl (by decide) _) fun a hk => ?_
        refine d3 33 hk rfl (chkN_ok (by as_aux_lemma => kernel_rfl)) rfl rfl rfl rfl hS (fun w hS => r_load1 hk rfl Tryd.underlying3 rfl (ip_c1 hS.2.1 j (by omega))) fun a hk => ?_
        refine d0 34 hk rfl (chkN_ok (by as_aux_lemma => kernel_rfl)) rfl rfl rfl rfl (fun _ => e_move hk rfl _) fun a hk => ?_
        refine d0 35 hk rfl (chkN_ok (by as_aux_lemma => kernel_rfl)) rfl rfl rfl rfl (fun _ => e_move hk rfl _) fun a hk => ?_
        refine d0 36 hk rfl (chkN_ok (by as_aux_lemma => kernel_rfl)) rfl rfl rfl rfl (fun _ => e_idxSn j hk rfl rfl Tryd.underlying67 sz66 rfl hj7 _) fun a hk => ?_
        refine d0 37 hk rfl (chkN_ok (by as_aux_lemma => kernel_rfl)) rfl rfl rfl rfl (fun _ => e_idxAn 1 hk rfl rfl Tryd.underlying66 sz3 rfl (by decide) _) fun a hk => ?_
        refine d3 38 hk rfl (chkN_ok (by as_aux_lemma => kernel_rfl)) rfl rfl rfl rfl hS (fun w hS => r_load1 hk rfl Tryd.underlying3 rfl (ip_c2 hS.2.1 j (by omega))) fun a hk => ?_
        refine d0 39 hk rfl (chkN_ok (by as_aux_lemma => kernel_rfl)) rfl rfl rfl rfl (fun _ => e_move hk rfl _) fun a hk => ?_
        refine d0 40 hk rfl (chkN_ok (by as_aux_lemma => kernel_rfl)) rfl rfl rfl rfl (fun _ => e_move hk rfl _) fun a hk => ?_
        refine d0 41 hk rfl (chkN_ok (by as_aux_lemma => kernel_rfl)) rfl rfl rfl rfl (fun _ => e_idxSn i hk rfl rfl Tryd.underlying86 sz69 rfl hi4 _) fun a hk => ?_
        refine d3 42 hk rfl (chkN_ok (by as_aux_lemma => kernel_rfl)) rfl rfl rfl rfl hS (fun w hS => r_load1 hk rfl Tryd.underlying69 rfl (row_c hS.2.2 i hci)) fun a hk => ?_
        refine da 43 hk rfl (chkN_ok (by as_aux_lemma => kernel_rfl)) rfl rfl (a_call hk rfl rfl (c_fn hk rfl ok58) (c58 (DS.getD q []) (DS.getD 1 []) (hD16 q hq2) (hD16 1 (by decide)) _ _ li adi ci _ hRi (by omega) (hGR.ext hB) hn1 hn2) ?_)
        rintro e w ⟨rfl, hE⟩
        refine ⟨_, rfl, fun a hk => ?_⟩
        have hS : (fun w => Rdg w (some ⟨bo, 0, none⟩) 2 2 DS ∧ w.heap[bs]? = some (.cells (ip NS).toArray 66 (0, 0)) ∧ w.heap[bL]? = some (.cells [.slice adL Ls.length cL, .slice ad1 s1.length c1, .slice ad3 s3.length c3, .slice none 0 0].toArray 69 (0, 0))) w := ⟨Rdg.ext hS.1 hE, ext_at hE hS.2.1, ext_at hE hS.2.2⟩
        have hRa := hRa.ext hE
        have hla := blk_ext hla hE
        have hRb := hRb.ext hE
        have hlb := blk_ext hlb hE
        have hRc := hRc.ext hE
        have hlc := blk_ext hlc hE
        have hRo := hRo.ext hE
        have h_bs := ext_at hE h_bs
        have h_bL := ext_at hE h_bL
        have hRi := hRi.ext hE
        have hli := blk_ext hli hE
        have hB := ext_trans hB hE
        clear hE
        refine d0 44 hk rfl (chkN_ok (by as_aux_lemma => kernel_rfl)) rfl rfl rfl rfl (fun _ => e_neq (b := false) hk rfl rfl (by simp) _) fun a hk => ?_
        refine okFin (by as_aux_lemma => kernel_rfl) (hK22 _ _ ?_)
        refine cdF hk rfl ?_
        refine wp_skip (hK21 _ _ ?_)
        refine wp_region_lit ?_
        refine ls hk rfl rfl rfl (e_move hk rfl _) fun a hk => ?_
        refine ls hk rfl rfl rfl (e_add hk rfl rfl (i64 (by omega) (by omega)) _) fun a hk => ?_
        refine ls hk rfl rfl rfl (e_assign hk rfl _) fun a hk => ?_
        refine lnil (show ∃ m : Nat, m < _ ∧ _ from ⟨2 - (q + 1), by omega, q + 1, rfl, by omega, hk.sub _ ⟨rfl, rfl, rfl, rfl, rfl, rfl, trivial⟩, hB, hRa, hla, hRb, hlb, hRc, hlc, hRo, h_bs, h_bL, hRi, hli⟩)
      · refine wp_exit (hK17 _ _ ?_)
        refine wp_region_lit ?_
        refine ls hk rfl rfl rfl (e_move hk rfl _) fun a hk => ?_
        refine ls hk rfl rfl rfl (e_add hk rfl rfl (i64 (by omega) (by omega)) _) fun a hk => ?_
        refine ls hk rfl rfl rfl (e_assign hk rfl _) fun a hk => ?_
        refine lnil (show ∃ m : Nat, m < _ ∧ _ from ⟨7 - (j + 1), by omega, j + 1, rfl, by omega, hk.sub _ ⟨rfl, rfl, rfl, rfl, rfl, trivial⟩, hB, hRa, hla, hRb, hlb, hRc, hlc, hRo, h_bs, h_bL, hRi, hli⟩)
    · refine wp_exit (hK13 _ _ ?_)
      refine wp_region_lit ?_
      refine ls hk rfl rfl rfl (e_move hk rfl _) fun a hk => ?_
      refine ls hk rfl rfl rfl (e_add hk rfl rfl (i64 (by omega) (by omega)) _) fun a hk => ?_
      refine ls hk rfl rfl rfl (e_assign hk rfl _) fun a hk => ?_
      refine lnil (show ∃ m : Nat, m < _ ∧ _ from ⟨4 - (i + 1), by omega, i + 1, rfl, by omega, hk.sub _ ⟨rfl, rfl, rfl, rfl, trivial⟩, hB, hRa, hla, hRb, hlb, hRc, hlc, hRo, h_bs, h_bL⟩)
  · refine wp_exit (hK9 _ _ ?_)
    refine wp_seq_k fun K23 hK23 => ?_
    refine wp_region_lit ?_
    refine la hk rfl (a_call hk rfl rfl (c_fn (vs := []) hk rfl ok53) (c53 _ (hG.ext hB)) ?_)
    rintro e w ⟨rfl, hE⟩
    refine ⟨_, rfl, fun a hk => ?_⟩
    have hRa := hRa.ext hE
    have hla := blk_ext hla hE
    have hRb := hRb.ext hE
    have hlb := blk_ext hlb hE
    have hRc := hRc.ext hE
    have hlc := blk_ext hlc hE
    have hRo := hRo.ext hE
    have h_bs := ext_at hE h_bs
    have h_bL := ext_at hE h_bL
    have hB := ext_trans hB hE
    clear hE
    refine ls hk rfl rfl rfl (e_assign hk rfl _) fun a hk => ?_
    refine lnil (hK23 _ _ ?_)
    refine wp_ret ?_
    first
      | exact ret1 hk rfl rfl ⟨rfl, hB⟩
      | (simp only [then_ret]; exact ret1 hk rfl rfl ⟨rfl, hB⟩)

end Go.Proofs.YtidfbboalbchiaaDoor
