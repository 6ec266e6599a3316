/- Plain mathematics of what dice make, and that queries of valid schemes are in order: no program in sight. -/
import Derived.Test.YtgaalfgmgmpnbaaGreatQPlainP2
import Derived.Test.YtgaalfgmgmpnbaaGreatQOwn5
import Derived.Test.YtgaalfgmgmpnbaaGreatQCoded
set_option linter.unusedVariables false
set_option linter.unusedSimpArgs false
namespace Go.Q
open Classical

theorem okP_7 : okP 7 := by
  refine ⟨by omega, by omega, fun d h1 h2 h3 => ?_⟩
  have hd : d ≤ 2 := by by_cases h : d ≤ 2; (· exact h); (· exfalso; have := mul_bd (a := 3) (A := d) (b := 3) (B := d) (by omega) (by omega) (by omega) (by omega); omega)
  have : d = 2 := by omega
  subst this; omega
theorem okP_11 : okP 11 := by
  refine ⟨by omega, by omega, fun d h1 h2 h3 => ?_⟩
  have hd : d ≤ 3 := by by_cases h : d ≤ 3; (· exact h); (· exfalso; have := mul_bd (a := 4) (A := d) (b := 4) (B := d) (by omega) (by omega) (by omega) (by omega); omega)
  have : d = 2 ∨ d = 3 := by omega
  rcases this with rfl | rfl <;> omega
theorem okP_13 : okP 13 := by
  refine ⟨by omega, by omega, fun d h1 h2 h3 => ?_⟩
  have hd : d ≤ 3 := by by_cases h : d ≤ 3; (· exact h); (· exfalso; have := mul_bd (a := 4) (A := d) (b := 4) (B := d) (by omega) (by omega) (by omega) (by omega); omega)
  have : d = 2 ∨ d = 3 := by omega
  rcases this with rfl | rfl <;> omega
theorem okP_257 : okP 257 := by
  refine ⟨by omega, by omega, fun d h1 h2 h3 => ?_⟩
  have hd : d ≤ 16 := by by_cases h : d ≤ 16; (· exact h); (· exfalso; have := mul_bd (a := 17) (A := d) (b := 17) (B := d) (by omega) (by omega) (by omega) (by omega); omega)
  have : d = 2 ∨ d = 3 ∨ d = 4 ∨ d = 5 ∨ d = 6 ∨ d = 7 ∨ d = 8 ∨ d = 9 ∨ d = 10 ∨ d = 11 ∨ d = 12 ∨ d = 13 ∨ d = 14 ∨ d = 15 ∨ d = 16 := by omega
  rcases this with rfl | rfl | rfl | rfl | rfl | rfl | rfl | rfl | rfl | rfl | rfl | rfl | rfl | rfl | rfl <;> omega

/-- The primes that dice make. -/
def dieP (p : Int) : Prop := p = 7 ∨ p = 11 ∨ p = 13 ∨ p = 257
theorem dieP_ok {p : Int} (h : dieP p) : okP p ∧ 7 ≤ p ∧ p ≤ 257 := by
  rcases h with rfl | rfl | rfl | rfl
  · exact ⟨okP_7, by omega, by omega⟩
  · exact ⟨okP_11, by omega, by omega⟩
  · exact ⟨okP_13, by omega, by omega⟩
  · exact ⟨okP_257, by omega, by omega⟩
/-- The schemes that dice make. -/
def dieS (s : Schm) : Prop := shapeS s ∧ 3 ≤ s.servers ∧ s.servers ≤ 6
/-- The tables that dice make. -/
def dieT (p : Int) (t : Tab) : Prop := checkT t = 0 ∧ t.p = p ∧ (1 ≤ t.rows.length ∧ t.rows.length ≤ 5) ∧ (1 ≤ t.number ∧ t.number ≤ 3) ∧ (1 ≤ t.width ∧ t.width ≤ 3)
theorem dieT_of {p n w c : Int} {rows : List (List Int)} (hp : dieP p) (hn : 1 ≤ n ∧ n ≤ 3) (hw : 1 ≤ w ∧ w ≤ 3) (hc : 1 ≤ c ∧ c ≤ 5) (h : rows.length = c.toNat ∧ ∀ r ∈ rows, r.length = w.toNat ∧ ∀ x ∈ r, hasP p x) : dieT p ⟨n, p, w, rows⟩ := by
  refine ⟨?_, rfl, ⟨by simp only; omega, by simp only; omega⟩, hn, hw⟩
  unfold checkT
  rw [if_neg (by simp only; omega), if_neg (Classical.not_not.2 (dieP_ok hp).1), if_neg (by simp only; omega), if_neg (by simp only; omega)]
  refine firstErr_none fun r hr => ?_
  obtain ⟨h1, h2⟩ := h.2 r hr
  unfold rowErr
  rw [if_neg (by simp only; omega), if_neg (Classical.not_not.2 (show allP p r from h2))]
theorem die_get {k : Int} (h : 0 ≤ k ∧ k < 4) : dieP (([7, 11, 13, 257] : List Int)[k.toNat]?.getD default) := by
  have : k.toNat = 0 ∨ k.toNat = 1 ∨ k.toNat = 2 ∨ k.toNat = 3 := by omega
  unfold dieP
  rcases this with e | e | e | e <;> rw [e] <;> simp
theorem die1 {n : Int} (h : 3 ≤ n ∧ n ≤ 6) : dieS ⟨1, n, 0, 0⟩ := ⟨⟨⟨by simp only; omega, by simp only; omega⟩, .inl ⟨rfl, rfl, rfl⟩⟩, h⟩
theorem die2 {n d : Int} (h : 3 ≤ n ∧ n ≤ 6) (hd : 1 ≤ d ∧ d ≤ 2) : dieS ⟨2, n, d, 0⟩ := ⟨⟨⟨by simp only; omega, by simp only; omega⟩, .inr (.inl ⟨rfl, hd.1, by simp only; omega, rfl⟩)⟩, h⟩
theorem die3 {n d : Int} (h : 3 ≤ n ∧ n ≤ 6) (hd : 1 ≤ d ∧ d ≤ 2) : dieS ⟨3, n, d, 1⟩ := ⟨⟨⟨by simp only; omega, by simp only; omega⟩, .inr (.inr ⟨rfl, hd.1, by simp only; omega, by simp only; omega, by simp only; omega, by simp only; omega⟩)⟩, h⟩
theorem die4 {n : Int} (h : 4 ≤ n ∧ n ≤ 6) : dieS ⟨3, n, 1, 2⟩ := ⟨⟨⟨by simp only; omega, by simp only; omega⟩, .inr (.inr ⟨rfl, by simp only; omega, by simp only; omega, by simp only; omega, by simp only; omega, by simp only; omega⟩)⟩, by simp only; omega, h.2⟩

/-- The scheme that dice make, and the dice behind it. -/
noncomputable def schI (d : Dc) : Dc := @ite _ (¬ 3 + d.val 4 < 4) (Classical.propDecidable _) d.next.next.next d.next.next
noncomputable def schV (d : Dc) : Schm := if d.next.val 3 = 0 then ⟨1, 3 + d.val 4, 0, 0⟩ else if d.next.val 3 = 1 then ⟨2, 3 + d.val 4, 1 + d.next.next.val 2, 0⟩ else if 3 + d.val 4 < 4 ∨ d.next.next.val 2 = 0 then ⟨3, 3 + d.val 4, 1 + (schI d).val 2, 1⟩ else ⟨3, 3 + d.val 4, 1, 2⟩
noncomputable def schD (d : Dc) : Dc := if d.next.val 3 = 0 then d.next.next else if d.next.val 3 = 1 then d.next.next.next else if 3 + d.val 4 < 4 ∨ d.next.next.val 2 = 0 then (schI d).next else schI d
theorem schI_ok {d : Dc} (h : okDc d) : okDc (schI d) := by
  have h1 := Dc.next_ok h
  have h2 := Dc.next_ok h1
  have h3 := Dc.next_ok h2
  unfold schI
  split <;> assumption
theorem schD_ok {d : Dc} (h : okDc d) : okDc (schD d) := by
  have h1 := Dc.next_ok h
  have h2 := Dc.next_ok h1
  have h3 := Dc.next_ok h2
  have h4 := schI_ok h
  have h5 := Dc.next_ok h4
  unfold schD
  split
  · assumption
  · split
    · assumption
    · split <;> assumption
theorem schV_die (d : Dc) : dieS (schV d) := by
  have v0 := Dc.val_lt (d := d) (n := 4) (by omega)
  have w0 := Dc.val_nonneg (d := d) (n := 4) (by omega)
  have v1 := Dc.val_lt (d := d.next.next) (n := 2) (by omega)
  have w1 := Dc.val_nonneg (d := d.next.next) (n := 2) (by omega)
  have v2 := Dc.val_lt (d := schI d) (n := 2) (by omega)
  have w2 := Dc.val_nonneg (d := schI d) (n := 2) (by omega)
  unfold schV
  split
  · exact die1 (by omega)
  · split
    · exact die2 (by omega) (by omega)
    · split
      · exact die3 (by omega) (by omega)
      · exact die4 (by omega)
/-! ### Queries of valid schemes -/

theorem grp_bd {n g : Int} (hn : 1 ≤ n ∧ n ≤ 1024) (hg : 1 ≤ g ∧ g ≤ 10) : 1 ≤ (n + g - 1) / g ∧ (n + g - 1) / g ≤ 1024 := by
  constructor
  · exact (Int.le_ediv_iff_mul_le (by omega)).2 (by omega)
  · have h1 : (n + g - 1) / g * g ≤ n + g - 1 := Int.ediv_mul_le _ (by omega)
    by_cases h : (n + g - 1) / g ≤ 1024
    · exact h
    · exfalso
      have h2 : 1025 * g ≤ (n + g - 1) / g * g := Int.mul_le_mul_of_nonneg_right (by omega) (by omega)
      have : n ≤ 1024 := hn.2
      omega
theorem units_ok {s : Schm} {n : Int} (hs : shapeS s) (hn : 1 ≤ n ∧ n ≤ 1024) : unitsS s n = if s.kind = 3 then (n + s.group - 1) / s.group else n := by
  unfold unitsS
  rw [if_neg (by rintro (h | h); (· exact h hs); (· exact h hn))]
theorem hld_ok {s : Schm} {t : Tab} {j : Int} (hv : validS s t.p) (ht : checkT t = 0) (hn : 1 ≤ t.rows.length) (hj : 1 ≤ j ∧ j ≤ s.servers) : hldE s t j = 0 ∧ ((hldL s t j).length : Int) = unitsS s t.rows.length := by
  have hct := checkT_ok ht
  have hs := hv.1
  have hsh := hv.1
  unfold shapeS at hs
  have hn2 : 1 ≤ (t.rows.length : Int) ∧ (t.rows.length : Int) ≤ 1024 := by have := hct.2.2.2.1; omega
  rw [units_ok hsh hn2]
  unfold hldE hldL
  rw [if_neg (Classical.not_not.2 ht), if_neg (Classical.not_not.2 hv), if_neg (Classical.not_not.2 hj), if_neg (hld_no ht hv hj)]
  by_cases h3 : s.kind = 3
  · simp only [if_pos h3]
    have hp : s.servers < t.p := hv.2.2.resolve_left (by omega)
    have e := codE_ok (p := t.p) (s := s.servers) (d := s.degree) (g := s.group) hv.2.1 (by omega) hp (by omega) (by omega) (by omega)
    have eE : holdE t.p s.servers s.degree s.group t.width t.rows j = 0 := by
      unfold holdE
      rw [if_neg (Classical.not_not.2 e), if_neg (by omega), if_neg (by have := hct.2.2.1; omega)]
      refine firstErr_none fun r hr => ?_
      obtain ⟨h5, h6⟩ := hct.2.2.2.2 r hr
      unfold rowErr
      rw [if_neg (by omega), if_neg (Classical.not_not.2 h6)]
    refine ⟨eE, ?_⟩
    unfold holdG
    rw [if_pos eE, List.length_map, grpL_len]
    unfold grpN
    rw [Int.natCast_ediv]
    congr 1 <;> omega
  · simp only [if_neg h3]
    exact ⟨trivial, trivial⟩
end Go.Q

namespace Go.Q
open Go.Proofs

open Classical
/-- Dice at a place of the heap. -/
def rDc (b : Nat) (d : Dc) : Res := rCells b 84 [dSl 1 fU8 d.xs, dInt .i64 (d.k : Nat)]
theorem dnew_spec (xs : List Int) : Spec Tryz.prog 7 [dBy xs] [] (σ := Nat) (fun _ => True) (fun b => dVal (ptr b 0)) (fun b => [rDc b ⟨xs.take 300, 0⟩]) := by
  refine spec_of_body Tryz.func7 rfl rfl (fun I F => ?_)
  refine run_seq ?_
  refine run_region ?_
  refine run_op (loc_assign rfl) rfl ?_
  refine run_nil ?_
  refine run_seq ?_
  refine run_seq ?_
  refine run_region ?_
  refine run_op (loc_move rfl) rfl ?_
  refine run_op (loc_lenBy rfl) rfl ?_
  refine run_op (loc_gtr rfl rfl) rfl ?_
  refine run_nil ?_
  refine run_cond rfl (fun h1 => ?_) (fun h1 => ?_)
  ·
    refine run_region ?_
    refine run_op (loc_move rfl) rfl ?_
    refine run_op (loc_sliceToBy rfl rfl (by omega)) rfl ?_
    refine run_op (loc_assign rfl) rfl ?_
    refine run_nil ?_
    refine run_seq ?_
    refine run_region ?_
    refine run_op (loc_move rfl) rfl ?_
    refine run_op (loc_build (.one rfl rfl rfl (.nil))) rfl ?_
    refine run_new (loc_boxOwnN rfl) rfl (fun b2 _ => ?_)
    refine run_op (loc_assign rfl) rfl ?_
    refine run_nil ?_
    refine run_ret (b2) Tryz.func7 rfl rfl ?_ (trivial) (fun _ _ h => h)
    exact fun _ _ h => h
  ·
    refine run_recast (s := 0) rfl (dBy_sl (by omega)) ?_
    refine run_skip ?_
    refine run_seq ?_
    refine run_region ?_
    refine run_op (loc_move rfl) rfl ?_
    refine run_op (loc_build (.one rfl rfl rfl (.nil))) rfl ?_
    refine run_new (loc_boxOwnN rfl) rfl (fun b3 _ => ?_)
    refine run_op (loc_assign rfl) rfl ?_
    refine run_nil ?_
    refine run_ret (b3) Tryz.func7 rfl rfl ?_ (trivial) (fun _ _ h => by rw [show xs.take 300 = xs from List.take_of_length_le (by omega)]; exact h)
    exact fun _ _ h => h

theorem pick_spec (b : Nat) (d : Dc) (n : Int) (h : okDc d) (hn : 1 ≤ n) : Spec Tryz.prog 21 [dVal (ptr b 0), dInt .i64 n] [rDc b d] (σ := Unit) (fun _ => True) (fun _ => dInt .i64 (d.val n)) (fun _ => [rDc b d.next]) := by
  refine spec_of_body Tryz.func21 rfl rfl (fun I F => ?_)
  show Run _ _ _ _ _ _ (rCells b 84 [dSl 1 fU8 d.xs, dInt .i64 (d.k : Nat)] :: F) _
  refine run_seq ?_
  have hlen := h.len
  refine run_region ?_
  refine run_op (loc_assign rfl) rfl ?_
  refine run_nil ?_
  refine run_seq ?_
  refine run_seq ?_
  refine dr_start _ (.none) [⟨[(0, none)], [], none⟩,
      ⟨[(5, some (0, false))], [0], none⟩,
      ⟨[(6, some (1, false))], [0, 1], none⟩,
      ⟨[(7, some (2, false))], [0, 1, 2], some (0, 0, false)⟩,
      ⟨[(0, none)], [], none⟩,
      ⟨[(9, some (4, false))], [4], none⟩,
      ⟨[(10, some (5, false))], [4, 5], none⟩,
      ⟨[(11, some (6, false))], [4, 5, 6], some (0, 0, false)⟩,
      ⟨[(12, some (7, false))], [4, 5, 6, 7], none⟩,
      ⟨[(8, some (3, false)), (13, some (8, false))], [0, 1, 2, 3, 4, 5, 6, 7, 8], none⟩] [_] _ rfl rfl ?_
  refine dq_pure rfl (fun s => .g rfl (.nil)) (fun s hs _ => loc_move rfl) (by exact .nil) ?_
  refine dq_pure rfl (fun s => .op rfl (.nil)) (fun s hs _ => loc_nilCheckOwn rfl) (by exact .nil) ?_
  refine dq_pure rfl (fun s => .op rfl (.nil)) (fun s hs _ => loc_fieldAddrOwn rfl) (by exact .nil) ?_
  refine dq_read rfl (fun s => .op rfl (.nil)) rfl rfl (fun s hs _ hm => loc_loadOwn1 rfl hm (by rfl)) (by exact .nil) ?_
  refine dq_pure rfl (fun s => .g rfl (.nil)) (fun s hs _ => loc_move rfl) (by exact .nil) ?_
  refine dq_pure rfl (fun s => .op rfl (.nil)) (fun s hs _ => loc_nilCheckOwn rfl) (by exact .nil) ?_
  refine dq_pure rfl (fun s => .op rfl (.nil)) (fun s hs _ => loc_fieldAddrOwn rfl) (by exact .nil) ?_
  refine dq_read rfl (fun s => .op rfl (.nil)) rfl rfl (fun s hs _ hm => loc_loadOwn1 rfl hm (by rfl)) (by exact .nil) ?_
  refine dq_pure rfl (fun s => .op rfl (.nil)) (fun s hs _ => loc_len rfl) (by exact .nil) ?_
  refine dq_pure rfl (fun s => .op rfl (.op rfl (.nil))) (fun s hs _ => loc_geq rfl rfl) (by exact .nil) ?_
  refine dq_end (rs := [_]) () rfl (fun _ => rfl) (.nil) rfl (fun _ => rfl) (fun _ _ => ?_)
  dsimp only [outG, outM, List.map, List.set, id]
  refine run_cond rfl (fun h1 => ?_) (fun h1 => ?_)
  ·
    refine run_seq ?_
    refine run_region ?_
    refine run_op (loc_assign rfl) rfl ?_
    refine run_nil ?_
    refine run_ret (()) Tryz.func21 rfl rfl ?_ (trivial) (fun _ _ h => by unfold Dc.next rDc; rw [if_neg (by omega)]; exact h)
    exact d_int (by unfold Dc.val; rw [if_neg (by omega)])
  ·
    refine run_skip ?_
    refine run_seq ?_
    refine run_region ?_
    refine run_op (loc_move rfl) rfl ?_
    refine run_op (loc_nilCheckOwn rfl) rfl ?_
    refine run_op (loc_fieldAddrOwn rfl) rfl ?_
    refine run_op (loc_loadOwn1 rfl (.here) (by rfl)) rfl ?_
    first | refine run_op (loc_add rfl rfl (by first | omega | assumption)) rfl ?_ | refine run_op (loc_addW rfl rfl) rfl ?_
    refine run_op (loc_nilCheckOwn rfl) rfl ?_
    refine run_op (loc_fieldAddrOwn rfl) rfl ?_
    refine run_store1 rfl rfl (.here) (by rfl) ?_
    refine run_nil ?_
    refine run_seq ?_
    have hx := h.byte (d.xs[((d.k : Int) + 1 - 1).toNat]?.getD default) (getD_mem (by omega))
    refine dr_start _ (.none) [⟨[(0, none)], [], none⟩,
        ⟨[(22, some (0, false))], [0], none⟩,
        ⟨[(23, some (1, false))], [0, 1], none⟩,
        ⟨[(24, some (2, false))], [0, 1, 2], some (0, 0, false)⟩,
        ⟨[(0, none)], [], none⟩,
        ⟨[(26, some (4, false))], [4], none⟩,
        ⟨[(27, some (5, false))], [4, 5], none⟩,
        ⟨[(28, some (6, false))], [4, 5, 6], some (0, 0, false)⟩,
        ⟨[(29, some (7, false))], [4, 5, 6, 7], none⟩,
        ⟨[(25, some (3, false)), (30, some (8, false))], [0, 1, 2, 3, 4, 5, 6, 7, 8], none⟩,
        ⟨[(31, some (9, false))], [0, 1, 2, 3, 4, 5, 6, 7, 8, 9], none⟩,
        ⟨[(32, some (10, false))], [0, 1, 2, 3, 4, 5, 6, 7, 8, 9, 10], none⟩,
        ⟨[(1, none)], [], none⟩,
        ⟨[(33, some (11, false)), (34, some (12, false))], [0, 1, 2, 3, 4, 5, 6, 7, 8, 9, 10, 11, 12], none⟩,
        ⟨[(35, some (13, false))], [0, 1, 2, 3, 4, 5, 6, 7, 8, 9, 10, 11, 12, 13], none⟩] [_] _ rfl rfl ?_
    refine dq_pure rfl (fun s => .g rfl (.nil)) (fun s hs _ => loc_move rfl) (by exact .nil) ?_
    refine dq_pure rfl (fun s => .op rfl (.nil)) (fun s hs _ => loc_nilCheckOwn rfl) (by exact .nil) ?_
    refine dq_pure rfl (fun s => .op rfl (.nil)) (fun s hs _ => loc_fieldAddrOwn rfl) (by exact .nil) ?_
    refine dq_read rfl (fun s => .op rfl (.nil)) rfl rfl (fun s hs _ hm => loc_loadOwn1 rfl hm (by rfl)) (by exact .nil) ?_
    refine dq_pure rfl (fun s => .g rfl (.nil)) (fun s hs _ => loc_move rfl) (by exact .nil) ?_
    refine dq_pure rfl (fun s => .op rfl (.nil)) (fun s hs _ => loc_nilCheckOwn rfl) (by exact .nil) ?_
    refine dq_pure rfl (fun s => .op rfl (.nil)) (fun s hs _ => loc_fieldAddrOwn rfl) (by exact .nil) ?_
    refine dq_read rfl (fun s => .op rfl (.nil)) rfl rfl (fun s hs _ hm => loc_loadOwn1 rfl hm (by rfl)) (by exact .nil) ?_
    first | refine dq_pure rfl (fun s => .op rfl (.nil)) (fun s hs _ => loc_sub rfl rfl (by first | omega | assumption)) (by exact .nil) ?_ | refine dq_pure rfl (fun s => .op rfl (.nil)) (fun s hs _ => loc_subW rfl rfl) (by exact .nil) ?_
    first | refine dq_pure rfl (fun s => .op rfl (.op rfl (.nil))) (fun s hs _ => loc_index rfl rfl (by first | omega | assumption)) (by exact .nil) ?_ | refine dq_pure rfl (fun s => .op rfl (.op rfl (.nil))) (fun s hs _ => loc_indexI rfl rfl (by first | omega | assumption)) (by exact .nil) ?_
    refine dq_pure rfl (fun s => .op rfl (.nil)) (fun s hs _ => loc_load1 rfl) (by exact .nil) ?_
    first | refine dq_pure rfl (fun s => .op rfl (.nil)) (fun s hs _ => loc_conv rfl (by first | omega | assumption)) (by exact .nil) ?_ | refine dq_pure rfl (fun s => .op rfl (.nil)) (fun s hs _ => loc_convW rfl) (by exact .nil) ?_
    refine dq_pure rfl (fun s => .g rfl (.nil)) (fun s hs _ => loc_move rfl) (by exact .nil) ?_
    first | refine dq_pure rfl (fun s => .op rfl (.op rfl (.nil))) (fun s hs _ => loc_rem rfl rfl (by first | omega | assumption)) (by exact .nil) ?_ | refine dq_pure rfl (fun s => .op rfl (.op rfl (.nil))) (fun s hs _ => loc_remW rfl rfl (by first | omega | assumption)) (by exact .nil) ?_
    refine dq_pure rfl (fun s => .op rfl (.nil)) (fun s hs _ => loc_assign rfl) (by exact .nil) ?_
    refine dq_end (rs := [_]) () rfl (fun _ => rfl) (.nil) rfl (fun _ => rfl) (fun _ _ => ?_)
    dsimp only [outG, outM, List.map, List.set, id]
    refine run_ret (()) Tryz.func21 rfl rfl ?_ (trivial) (fun _ _ h => by unfold Dc.next rDc; rw [if_pos (by omega)]; exact h)
    exact d_int (by unfold Dc.val; rw [if_pos (by omega)]; congr 3; omega)

end Go.Q

namespace Go.Q
open Go.Proofs

open Classical
theorem spec_some {P : Program} {f : FuncId} {Ds : List D} {Min : List Res} {σ : Type} {φ : σ → Prop} {d : σ → D} {Mout : σ → List Res} {d0 : D} {M0 : List Res} (h : Spec P f Ds Min (σ := Unit) (fun _ => True) (fun _ => d0) (fun _ => M0)) (s : σ) (hφ : φ s) (hd : d0 = d s := by rfl) (hM : M0 = Mout s := by rfl) : Spec P f Ds Min φ d Mout := by
  subst hd hM
  intro I F w vs hv hi
  refine (h I F w vs hv hi).mono ?_
  rintro e w' ⟨v, rfl, _, _, J, h1, h2, h3⟩
  exact ⟨v, rfl, s, hφ, J, h1, h2, h3⟩
theorem dfield_spec (b : Nat) (d : Dc) (h : okDc d) : Spec Tryz.prog 36 [dVal (ptr b 0)] [rDc b d] (σ := Int × Dc) (fun s => dieP s.1 ∧ okDc s.2) (fun s => dAgg [dInt .i64 s.1]) (fun s => [rDc b s.2]) := by
  refine spec_of_body Tryz.func36 rfl rfl (fun I F => ?_)
  refine run_seq ?_
  have hv0 := Dc.val_lt (d := d) (n := 4) (by omega)
  have hw0 := Dc.val_nonneg (d := d) (n := 4) (by omega)
  refine run_region ?_
  refine run_new (loc_allocOwn (by simp)) rfl (fun b1 _ => ?_)
  refine run_nil ?_
  refine run_seq ?_
  refine run_region ?_
  refine run_op (loc_buildSlice rfl rfl (.one rfl (.one rfl (.one rfl (.one rfl (.nil))))) rfl rfl) rfl ?_
  refine run_op (loc_move rfl) rfl ?_
  refine run_callM rfl (.there (.here)) (pick_spec b _ _ (by assumption) (by omega)) rfl (fun s2 hs2 => ?_)
  refine runL_recast (s := 3) rfl (d_sl (ys := [7, 11, 13, 257]) (h := fI) rfl) ?_
  first | refine run_op (loc_index rfl rfl (by first | omega | assumption | (simp; omega))) rfl ?_ | refine run_op (loc_indexI rfl rfl (by first | omega | assumption | (simp; omega))) rfl ?_
  refine run_op (loc_load1 rfl) rfl ?_
  refine run_op (loc_build (.one rfl rfl rfl (.nil))) rfl ?_
  refine run_storeN (ho := (by show OneAll [_]; infer_instance)) rfl rfl (.here) (by rfl) ?_
  refine run_nil ?_
  refine run_retG ((([7, 11, 13, 257] : List Int)[(d.val 4).toNat]?.getD default, d.next)) Tryz.func36 rfl (.cellN rfl (by first | exact .here | exact .there .here | exact .there (.there .here) | exact .there (.there (.there .here)) | exact .there (.there (.there (.there .here))) | exact .there (.there (.there (.there (.there .here))))) (by rfl) (.nil)) ?_ (⟨die_get ⟨hw0, hv0⟩, Dc.next_ok h⟩) (fun _ _ h => h.sub (.cons _ (.cons_cons _ (.refl _))))
  exact fun _ _ h => h

theorem dschemeD_spec (b : Nat) (d : Dc) (h : okDc d) : Spec Tryz.prog 34 [dVal (ptr b 0)] [rDc b d] (σ := Unit) (fun _ => True) (fun _ => dSchm (schV d)) (fun _ => [rDc b (schD d)]) := by
  refine spec_of_body Tryz.func34 rfl rfl (fun I F => ?_)
  refine run_seq ?_
  refine run_region ?_
  refine run_new (loc_allocOwn (by simp)) rfl (fun b1 _ => ?_)
  refine run_nil ?_
  refine run_seq ?_
  have hv0 := Dc.val_lt (d := d) (n := 4) (by omega)
  have hw0 := Dc.val_nonneg (d := d) (n := 4) (by omega)
  have h1 := Dc.next_ok h
  have h2 := Dc.next_ok h1
  have h3 := Dc.next_ok h2
  have hif : okDc (@ite _ (¬ 3 + d.val 4 < 4) (Classical.propDecidable _) d.next.next.next d.next.next) := schI_ok h
  have hv1 := Dc.val_lt (d := d.next) (n := 3) (by omega)
  have hw1 := Dc.val_nonneg (d := d.next) (n := 3) (by omega)
  have hv2 := Dc.val_lt (d := d.next.next) (n := 2) (by omega)
  have hw2 := Dc.val_nonneg (d := d.next.next) (n := 2) (by omega)
  have hvi := Dc.val_lt (d := @ite _ (¬ 3 + d.val 4 < 4) (Classical.propDecidable _) d.next.next.next d.next.next) (n := 2) (by omega)
  have hwi := Dc.val_nonneg (d := @ite _ (¬ 3 + d.val 4 < 4) (Classical.propDecidable _) d.next.next.next d.next.next) (n := 2) (by omega)
  refine run_region ?_
  refine run_op (loc_move rfl) rfl ?_
  refine run_callM rfl (.there (.here)) (pick_spec b _ _ (by assumption) (by omega)) rfl (fun s2 hs2 => ?_)
  first | refine run_op (loc_add rfl rfl (by first | omega | assumption | (simp; omega))) rfl ?_ | refine run_op (loc_addW rfl rfl) rfl ?_
  refine run_op (loc_assign rfl) rfl ?_
  refine run_nil ?_
  refine run_seq ?_
  refine run_seq ?_
  refine run_region ?_
  refine run_op (loc_move rfl) rfl ?_
  refine run_callM rfl (.there (.here)) (pick_spec b _ _ (by assumption) (by omega)) rfl (fun s3 hs3 => ?_)
  refine run_nil ?_
  refine run_block ?_
  refine run_seq ?_
  refine run_region ?_
  refine run_op (loc_eql rfl rfl) rfl ?_
  refine run_op (loc_assign rfl) rfl ?_
  refine run_nil ?_
  refine run_cond rfl (fun h4 => ?_) (fun h4 => ?_)
  ·
    have k1 := h4
    refine run_seq ?_
    refine run_region ?_
    refine run_op (loc_move rfl) rfl ?_
    refine run_op (loc_build (.one rfl rfl rfl (.one rfl rfl rfl (.nil)))) rfl ?_
    refine run_storeN (ho := (by show OneAll [_, _, _, _]; infer_instance)) rfl rfl (.here) (by rfl) ?_
    refine run_nil ?_
    refine run_retG (()) Tryz.func34 rfl (.cellN rfl (by first | exact .here | exact .there .here | exact .there (.there .here) | exact .there (.there (.there .here)) | exact .there (.there (.there (.there .here))) | exact .there (.there (.there (.there (.there .here))))) (by rfl) (.nil)) ?_ (trivial) (fun I w h => by rw [show schD d = _ by unfold schD; rw [if_pos k1]]; exact (fun _ _ h => h.sub (.cons _ (.cons_cons _ (.refl _)))) I w h)
    exact d_eq (by unfold schV; rw [if_pos k1] <;> rfl)
  ·
    have k1 := h4
    refine run_seq ?_
    refine run_region ?_
    refine run_op (loc_eql rfl rfl) rfl ?_
    refine run_op (loc_assign rfl) rfl ?_
    refine run_nil ?_
    refine run_cond rfl (fun h5 => ?_) (fun h5 => ?_)
    ·
      have k2 := h5
      refine run_seq ?_
      refine run_region ?_
      refine run_op (loc_move rfl) rfl ?_
      refine run_op (loc_move rfl) rfl ?_
      refine run_callM rfl (.there (.here)) (pick_spec b _ _ (by assumption) (by omega)) rfl (fun s6 hs6 => ?_)
      first | refine run_op (loc_add rfl rfl (by first | omega | assumption | (simp; omega))) rfl ?_ | refine run_op (loc_addW rfl rfl) rfl ?_
      refine run_op (loc_build (.one rfl rfl rfl (.one rfl rfl rfl (.one rfl rfl rfl (.nil))))) rfl ?_
      refine run_storeN (ho := (by show OneAll [_, _, _, _]; infer_instance)) rfl rfl (.here) (by rfl) ?_
      refine run_nil ?_
      refine run_retG (()) Tryz.func34 rfl (.cellN rfl (by first | exact .here | exact .there .here | exact .there (.there .here) | exact .there (.there (.there .here)) | exact .there (.there (.there (.there .here))) | exact .there (.there (.there (.there (.there .here))))) (by rfl) (.nil)) ?_ (trivial) (fun I w h => by rw [show schD d = _ by unfold schD; rw [if_neg k1, if_pos k2]]; exact (fun _ _ h => h.sub (.cons _ (.cons_cons _ (.refl _)))) I w h)
      exact d_eq (by unfold schV; rw [if_neg k1, if_pos k2] <;> rfl)
    ·
      have k2 := h5
      refine run_skip ?_
      refine run_inBlock ?_
      refine run_seq ?_
      refine run_seq ?_
      refine run_region ?_
      refine run_op (loc_move rfl) rfl ?_
      refine run_op (loc_lss rfl rfl) rfl ?_
      refine run_op (loc_move rfl) rfl ?_
      refine run_gfirst rfl rfl (by first | exact guard_true _ | exact guard_false _ | exact guard_if (guard_true _) | exact guard_if (guard_false _)) (fun hg => loc_move rfl) rfl ?_
      refine run_gopM (rDc b) rfl rfl (by first | exact guard_true _ | exact guard_false _ | exact guard_if (guard_true _) | exact guard_if (guard_false _)) (fun hg => loc_callM (pick_spec b _ _ (by assumption) (by omega)) rfl) rfl (.there (.here)) ?_
      refine run_gop rfl rfl (by first | exact guard_true _ | exact guard_false _ | exact guard_if (guard_true _) | exact guard_if (guard_false _)) (fun hg => loc_eql rfl rfl) rfl ?_
      refine run_gleave ?_
      refine run_op (loc_or rfl rfl) rfl ?_
      refine run_nil ?_
      refine run_cond rfl (fun h7 => ?_) (fun h7 => ?_)
      ·
        have k3 := h7
        refine run_seq ?_
        refine run_region ?_
        refine run_op (loc_move rfl) rfl ?_
        refine run_op (loc_move rfl) rfl ?_
        refine run_callM rfl (.there (.here)) (pick_spec b _ _ (by assumption) (by omega)) rfl (fun s8 hs8 => ?_)
        first | refine run_op (loc_add rfl rfl (by first | omega | assumption | (simp; omega))) rfl ?_ | refine run_op (loc_addW rfl rfl) rfl ?_
        refine run_op (loc_build (.one rfl rfl rfl (.one rfl rfl rfl (.one rfl rfl rfl (.one rfl rfl rfl (.nil)))))) rfl ?_
        refine run_storeN (ho := (by show OneAll [_, _, _, _]; infer_instance)) rfl rfl (.here) (by rfl) ?_
        refine run_nil ?_
        refine run_retG (()) Tryz.func34 rfl (.cellN rfl (by first | exact .here | exact .there .here | exact .there (.there .here) | exact .there (.there (.there .here)) | exact .there (.there (.there (.there .here))) | exact .there (.there (.there (.there (.there .here))))) (by rfl) (.nil)) ?_ (trivial) (fun I w h => by rw [show schD d = _ by unfold schD; rw [if_neg k1, if_neg k2, if_pos k3]]; exact (fun _ _ h => h.sub (.cons _ (.cons_cons _ (.refl _)))) I w h)
        exact d_eq (by unfold schV; rw [if_neg k1, if_neg k2, if_pos k3] <;> rfl)
      ·
        have k3 := h7
        refine run_skip ?_
        refine run_seq ?_
        refine run_region ?_
        refine run_op (loc_move rfl) rfl ?_
        refine run_op (loc_build (.one rfl rfl rfl (.one rfl rfl rfl (.one rfl rfl rfl (.one rfl rfl rfl (.nil)))))) rfl ?_
        refine run_storeN (ho := (by show OneAll [_, _, _, _]; infer_instance)) rfl rfl (.here) (by rfl) ?_
        refine run_nil ?_
        refine run_retG (()) Tryz.func34 rfl (.cellN rfl (by first | exact .here | exact .there .here | exact .there (.there .here) | exact .there (.there (.there .here)) | exact .there (.there (.there (.there .here))) | exact .there (.there (.there (.there (.there .here))))) (by rfl) (.nil)) ?_ (trivial) (fun I w h => by rw [show schD d = _ by unfold schD; rw [if_neg k1, if_neg k2, if_neg k3]]; exact (fun _ _ h => h.sub (.cons _ (.cons_cons _ (.refl _)))) I w h)
        exact d_eq (by unfold schV; rw [if_neg k1, if_neg k2, if_neg k3] <;> rfl)

theorem dscheme_spec (b : Nat) (d : Dc) (h : okDc d) : Spec Tryz.prog 34 [dVal (ptr b 0)] [rDc b d] (σ := Schm × Dc) (fun s => dieS s.1 ∧ okDc s.2) (fun s => dSchm s.1) (fun s => [rDc b s.2]) :=
  spec_some (dschemeD_spec b d h) (schV d, schD d) ⟨schV_die d, schD_ok h⟩
theorem delements_spec (b : Nat) (d : Dc) (h : okDc d) (p n : Int) (hp : 2 ≤ p ∧ p ≤ 65521) (hn : n ≤ 100000) : Spec Tryz.prog 48 [dVal (ptr b 0), dAgg [dInt .i64 p], dInt .i64 n] [rDc b d] (σ := List Int × Dc) (fun s => (s.1.length = n.toNat ∧ ∀ x ∈ s.1, hasP p x) ∧ okDc s.2) (fun s => dInts s.1) (fun s => [rDc b s.2]) := by
  refine spec_of_body Tryz.func48 rfl rfl (fun I F => ?_)
  refine run_seq ?_
  refine run_region ?_
  refine run_op (loc_boxN rfl) rfl ?_
  refine run_op (loc_assign rfl) rfl ?_
  refine run_nil ?_
  refine run_seq ?_
  refine run_region ?_
  refine run_op (loc_assign rfl) rfl ?_
  refine run_nil ?_
  refine run_seq ?_
  refine run_seq ?_
  refine run_region ?_
  refine run_op (loc_assign rfl) rfl ?_
  refine run_nil ?_
  refine run_block ?_
  refine run_rowNil 3 1 fI ?_
  refine run_loopF (σ := Value × List Int × Dc) (ks := [0, 2, 4]) (.cons rfl (.cons rfl (.cons rfl (.nil)))) (fun q => [(7, dVal q.1), (8, dInt .i64 (q.2.1.length : Nat))]) (fun q => [rRow q.1 3 1 fI q.2.1, rDc b q.2.2]) (fun q => q.2.1.length ≤ n.toNat ∧ (∀ x ∈ q.2.1, hasP p x) ∧ okDc q.2.2) (fun q => n.toNat - q.2.1.length) ((.slice none 0 0, [], d)) (⟨Nat.zero_le _, fun x hx => (by cases hx), h⟩) (.cons rfl (by first | exact fun _ _ h => h | exact d_int (by omega) | exact d_int (by simp) | exact d_intN (by omega) | exact d_any) (.cons rfl (d_int rfl) .nil)) (rfl) ?_
  rintro q ⟨hl, hall, hok⟩ ih1
  have hok1 := Dc.next_ok hok
  have hv0 := Dc.val_lt (d := q.2.2) (n := 256) (by omega)
  have hw0 := Dc.val_nonneg (d := q.2.2) (n := 256) (by omega)
  have hv1 := Dc.val_lt (d := q.2.2.next) (n := 2) (by omega)
  have hw1 := Dc.val_nonneg (d := q.2.2.next) (n := 2) (by omega)
  have hxb := mod_bd (q.2.2.val 256 + q.2.2.next.val 2 * 128) (show 0 < p by omega)
  refine run_seq ?_
  refine run_seq ?_
  refine run_region ?_
  refine run_op (loc_move rfl) rfl ?_
  refine run_op (loc_move rfl) rfl ?_
  refine run_op (loc_lss rfl rfl) rfl ?_
  refine run_nil ?_
  refine run_cond rfl (fun h2 => ?_) (fun h2 => ?_)
  ·
    refine run_skip ?_
    refine run_seq ?_
    refine run_block ?_
    refine dr_start _ (.one (σ := Value) 11 (fun _ => True)) [⟨[(7, none)], [], none⟩,
        ⟨[(0, none)], [], none⟩,
        ⟨[(15, some (1, false))], [1], some (1, 0, true)⟩,
        ⟨[(0, none)], [], none⟩,
        ⟨[(17, some (3, false))], [1, 2, 3], some (1, 1, true)⟩,
        ⟨[(18, some (4, false))], [1, 2, 3, 4], none⟩,
        ⟨[(16, some (2, false)), (19, some (5, false))], [1, 2, 3, 4, 5], none⟩,
        ⟨[(4, none)], [], none⟩,
        ⟨[(21, some (7, false))], [7], none⟩,
        ⟨[(20, some (6, false)), (22, some (8, false))], [1, 2, 3, 4, 5, 6, 7, 8], none⟩,
        ⟨[(23, some (9, false))], [1, 2, 3, 4, 5, 6, 7, 8, 9], none⟩,
        ⟨[(14, some (0, false)), (24, some (10, false))], [0, 1, 2, 3, 4, 5, 6, 7, 8, 9, 10], some (0, 0, true)⟩,
        ⟨[(25, some (11, false))], [0, 1, 2, 3, 4, 5, 6, 7, 8, 9, 10, 11], none⟩] [_, _] _ rfl rfl ?_
    refine dq_pure rfl (fun s => .g rfl (.nil)) (fun s hs _ => loc_move rfl) (by exact .cons (.inr fun _ _ _ => rfl) (.nil)) ?_
    refine dq_pure rfl (fun s => .g rfl (.nil)) (fun s hs _ => loc_move rfl) (by exact .cons (.inr fun _ _ _ => rfl) (.nil)) ?_
    refine dq_write rfl (fun s => .op rfl (.nil)) rfl rfl (fun s hs => loc_callM (pick_spec b _ _ (by assumption) (by omega)) rfl) (by exact .cons (.inr fun _ _ _ => ⟨rfl, rfl⟩) (.nil)) ?_
    refine dq_pure rfl (fun s => .g rfl (.nil)) (fun s hs _ => loc_move rfl) (by exact .cons (.inr fun _ _ _ => rfl) (.nil)) ?_
    refine dq_write rfl (fun s => .op rfl (.nil)) rfl rfl (fun s hs => loc_callM (pick_spec b _ _ (by assumption) (by omega)) rfl) (by exact .cons (.inr fun _ _ _ => ⟨rfl, rfl⟩) (.nil)) ?_
    first | refine dq_pure rfl (fun s => .op rfl (.nil)) (fun s hs _ => loc_mul rfl rfl (by first | omega | assumption | (simp; omega))) (by exact .cons (.inr fun _ _ _ => rfl) (.nil)) ?_ | refine dq_pure rfl (fun s => .op rfl (.nil)) (fun s hs _ => loc_mulW rfl rfl) (by exact .cons (.inr fun _ _ _ => rfl) (.nil)) ?_
    first | refine dq_pure rfl (fun s => .op rfl (.op rfl (.nil))) (fun s hs _ => loc_add rfl rfl (by first | omega | assumption | (simp; omega))) (by exact .cons (.inr fun _ _ _ => rfl) (.nil)) ?_ | refine dq_pure rfl (fun s => .op rfl (.op rfl (.nil))) (fun s hs _ => loc_addW rfl rfl) (by exact .cons (.inr fun _ _ _ => rfl) (.nil)) ?_
    refine dq_pure rfl (fun s => .g rfl (.nil)) (fun s hs _ => loc_fieldAddr rfl) (by exact .cons (.inr fun _ _ _ => rfl) (.nil)) ?_
    refine dq_pure rfl (fun s => .op rfl (.nil)) (fun s hs _ => loc_load1 rfl) (by exact .cons (.inr fun _ _ _ => rfl) (.nil)) ?_
    first | refine dq_pure rfl (fun s => .op rfl (.op rfl (.nil))) (fun s hs _ => loc_rem rfl rfl (by first | omega | assumption | (simp; omega))) (by exact .cons (.inr fun _ _ _ => rfl) (.nil)) ?_ | refine dq_pure rfl (fun s => .op rfl (.op rfl (.nil))) (fun s hs _ => loc_remW rfl rfl (by first | omega | assumption | (simp; omega))) (by exact .cons (.inr fun _ _ _ => rfl) (.nil)) ?_
    refine dq_pure rfl (fun s => .op rfl (.nil)) (fun s hs _ => loc_buildSlice rfl rfl (.one rfl (.nil)) rfl rfl) (by exact .cons (.inr fun _ _ _ => rfl) (.nil)) ?_
    refine dq_choose id (fun _ t => t) rfl (fun _ _ => ⟨rfl, id, trivial⟩) (fun s => .op rfl (.op rfl (.nil))) rfl rfl (fun s hs => loc_append1 _ rfl rfl rfl rfl (by first | omega | (unfold lenMax; omega) | assumption | (simp; omega) | (simp [lenMax]; omega)) (by first | omega | (unfold lenMax; omega) | assumption | (simp; omega) | (simp [lenMax]; omega))) (by exact .cons (.inl rfl) (.nil)) (fun _ _ => rfl) ?_
    refine dq_pure rfl (fun s => .op rfl (.nil)) (fun s hs _ => loc_assign rfl) (by exact .cons (.inl rfl) (.nil)) ?_
    refine dq_end (rs := [_, _]) (.bool true) rfl (fun _ => rfl) (.cons rfl (.nil)) rfl (fun _ => rfl) (fun v3 _ => ?_)
    dsimp only [outG, outM, List.map, List.set, id]
    refine run_inBlock ?_
    refine run_region ?_
    refine run_op (loc_move rfl) rfl ?_
    first | refine run_op (loc_add rfl rfl (by first | omega | assumption | (simp; omega))) rfl ?_ | refine run_op (loc_addW rfl rfl) rfl ?_
    refine run_op (loc_assign rfl) rfl ?_
    refine run_nil ?_
    exact run_againF ih1 ((v3, q.2.1 ++ [(q.2.2.val 256 + q.2.2.next.val 2 * 128) % p], q.2.2.next.next)) (⟨by simp only [List.length_append, List.length_singleton]; omega, fun x hx => by rcases List.mem_append.1 hx with hx | hx; (· exact hall x hx); (· rw [List.mem_singleton.1 hx]; exact hxb), Dc.next_ok hok1⟩) (by simp only [List.length_append, List.length_singleton]; omega) (.cons rfl (by first | exact fun _ _ h => h | exact d_int (by omega) | exact d_int (by simp) | exact d_intN (by omega) | exact d_any) (.cons rfl (d_int (by simp only [List.length_append, List.length_singleton]; omega)) .nil)) (.cons rfl (fun _ _ x => x) (.cons rfl (fun _ _ x => x) (.cons rfl (fun _ _ x => x) (.nil)))) (rfl)
  ·
    refine run_exit rfl ?_
    refine run_seq ?_
    refine run_freezeRow (s := 7) rfl (.here) ?_
    refine run_region ?_
    refine run_op (loc_move rfl) rfl ?_
    refine run_op (loc_assign rfl) rfl ?_
    refine run_nil ?_
    refine run_ret (q.2) Tryz.func48 rfl rfl ?_ (⟨⟨by omega, hall⟩, hok⟩) (fun _ _ h => h.sub (.cons_cons _ (.refl _)))
    exact fun _ _ h => h

theorem drows_spec (b : Nat) (d : Dc) (h : okDc d) (p n w : Int) (hp : 2 ≤ p ∧ p ≤ 65521) (hn : n ≤ 100000) (hw : w ≤ 100000) : Spec Tryz.prog 78 [dVal (ptr b 0), dAgg [dInt .i64 p], dInt .i64 n, dInt .i64 w] [rDc b d] (σ := List (List Int) × Dc) (fun s => (s.1.length = n.toNat ∧ ∀ r ∈ s.1, r.length = w.toNat ∧ ∀ x ∈ r, hasP p x) ∧ okDc s.2) (fun s => dRows s.1) (fun s => [rDc b s.2]) := by
  refine spec_of_body Tryz.func78 rfl rfl (fun I F => ?_)
  refine run_seq ?_
  refine run_region ?_
  refine run_op (loc_boxN rfl) rfl ?_
  refine run_op (loc_assign rfl) rfl ?_
  refine run_nil ?_
  refine run_seq ?_
  refine run_region ?_
  refine run_op (loc_assign rfl) rfl ?_
  refine run_nil ?_
  refine run_seq ?_
  refine run_seq ?_
  refine run_region ?_
  refine run_op (loc_assign rfl) rfl ?_
  refine run_nil ?_
  refine run_block ?_
  refine run_rowNil 44 1 fR ?_
  refine run_loopF (σ := Value × List (List Int) × Dc) (ks := [0, 2, 3, 5]) (.cons rfl (.cons rfl (.cons rfl (.cons rfl (.nil))))) (fun q => [(9, dVal q.1), (10, dInt .i64 (q.2.1.length : Nat))]) (fun q => [rRow q.1 44 1 fR q.2.1, rDc b q.2.2]) (fun q => q.2.1.length ≤ n.toNat ∧ (∀ r ∈ q.2.1, r.length = w.toNat ∧ ∀ x ∈ r, hasP p x) ∧ okDc q.2.2) (fun q => n.toNat - q.2.1.length) ((.slice none 0 0, [], d)) (⟨Nat.zero_le _, fun x hx => (by cases hx), h⟩) (.cons rfl (by first | exact fun _ _ h => h | exact d_int (by omega) | exact d_int (by simp) | exact d_intN (by omega) | exact d_any) (.cons rfl (d_int rfl) .nil)) (rfl) ?_
  rintro q ⟨hl, hall, hok⟩ ih1
  refine run_seq ?_
  refine run_seq ?_
  refine run_region ?_
  refine run_op (loc_move rfl) rfl ?_
  refine run_op (loc_move rfl) rfl ?_
  refine run_op (loc_lss rfl rfl) rfl ?_
  refine run_nil ?_
  refine run_cond rfl (fun h2 => ?_) (fun h2 => ?_)
  ·
    refine run_skip ?_
    refine run_seq ?_
    refine run_block ?_
    refine run_region ?_
    refine run_op (loc_move rfl) rfl ?_
    refine run_op (loc_move rfl) rfl ?_
    refine run_op (loc_loadN rfl rfl) rfl ?_
    refine run_op (loc_move rfl) rfl ?_
    refine run_callM rfl (.there (.here)) (delements_spec b _ (by assumption) p w hp hw) rfl (fun x20 hx20 => ?_)
    refine run_op (loc_buildSlice rfl rfl (.one rfl (.nil)) rfl rfl) rfl ?_
    refine run_append1 rfl (.here) rfl (by rfl) (by rfl) (by first | omega | (unfold lenMax; omega) | assumption | (simp; omega) | (simp [lenMax]; omega)) (by first | omega | (unfold lenMax; omega) | assumption | (simp; omega) | (simp [lenMax]; omega)) rfl (fun v3 => ?_)
    refine run_op (loc_assign rfl) rfl ?_
    refine run_nil ?_
    refine run_inBlock ?_
    refine run_region ?_
    refine run_op (loc_move rfl) rfl ?_
    first | refine run_op (loc_add rfl rfl (by first | omega | assumption | (simp; omega))) rfl ?_ | refine run_op (loc_addW rfl rfl) rfl ?_
    refine run_op (loc_assign rfl) rfl ?_
    refine run_nil ?_
    exact run_againF ih1 ((v3, q.2.1 ++ [x20.1], x20.2)) (⟨by simp only [List.length_append, List.length_singleton]; omega, fun x hx => by rcases List.mem_append.1 hx with hx | hx; (· exact hall x hx); (· rw [List.mem_singleton.1 hx]; exact hx20.1), hx20.2⟩) (by simp only [List.length_append, List.length_singleton]; omega) (.cons rfl (by first | exact fun _ _ h => h | exact d_int (by omega) | exact d_int (by simp) | exact d_intN (by omega) | exact d_any) (.cons rfl (d_int (by simp only [List.length_append, List.length_singleton]; omega)) .nil)) (.cons rfl (fun _ _ x => x) (.cons rfl (fun _ _ x => x) (.cons rfl (fun _ _ x => x) (.cons rfl (fun _ _ x => x) (.nil))))) (rfl)
  ·
    refine run_exit rfl ?_
    refine run_seq ?_
    refine run_freezeRow (s := 9) rfl (.here) ?_
    refine run_region ?_
    refine run_op (loc_move rfl) rfl ?_
    refine run_op (loc_assign rfl) rfl ?_
    refine run_nil ?_
    refine run_ret (q.2) Tryz.func78 rfl rfl ?_ (⟨⟨by omega, hall⟩, hok⟩) (fun _ _ h => h.sub (.cons_cons _ (.refl _)))
    exact fun _ _ h => h

theorem dtable_spec (b : Nat) (d : Dc) (h : okDc d) (p : Int) (hp : dieP p) : Spec Tryz.prog 35 [dVal (ptr b 0), dAgg [dInt .i64 p]] [rDc b d] (σ := Tab × Dc) (fun s => dieT p s.1 ∧ okDc s.2) (fun s => dTab s.1) (fun s => [rDc b s.2]) := by
  refine spec_of_body Tryz.func35 rfl rfl (fun I F => ?_)
  refine run_seq ?_
  refine run_region ?_
  refine run_op (loc_boxN rfl) rfl ?_
  refine run_new (loc_allocOwn (by simp)) rfl (fun b1 _ => ?_)
  refine run_nil ?_
  refine run_seq ?_
  have hpb := (dieP_ok hp).2
  have h1 := Dc.next_ok h
  have h2 := Dc.next_ok h1
  have h3 := Dc.next_ok h2
  have hv0 := Dc.val_lt (d := d) (n := 3) (by omega)
  have hw0 := Dc.val_nonneg (d := d) (n := 3) (by omega)
  have hv1 := Dc.val_lt (d := d.next) (n := 3) (by omega)
  have hw1 := Dc.val_nonneg (d := d.next) (n := 3) (by omega)
  have hv2 := Dc.val_lt (d := d.next.next) (n := 5) (by omega)
  have hw2 := Dc.val_nonneg (d := d.next.next) (n := 5) (by omega)
  refine run_region ?_
  refine run_op (loc_move rfl) rfl ?_
  refine run_callM rfl (.there (.here)) (pick_spec b _ _ (by assumption) (by omega)) rfl (fun s2 hs2 => ?_)
  first | refine run_op (loc_add rfl rfl (by first | omega | assumption | (simp; omega))) rfl ?_ | refine run_op (loc_addW rfl rfl) rfl ?_
  refine run_op (loc_assign rfl) rfl ?_
  refine run_nil ?_
  refine run_seq ?_
  refine dr_start _ (.one (σ := List (List Int) × Dc) 11 (fun s => (s.1.length = (1 + d.next.next.val 5).toNat ∧ ∀ r ∈ s.1, r.length = (1 + d.val 3).toNat ∧ ∀ x ∈ r, hasP p x) ∧ okDc s.2)) [⟨[(0, none)], [], none⟩,
      ⟨[(9, some (0, false))], [0], some (1, 0, true)⟩,
      ⟨[(10, some (1, false))], [0, 1], none⟩,
      ⟨[(3, none)], [], none⟩,
      ⟨[(5, none)], [], none⟩,
      ⟨[(0, none)], [], none⟩,
      ⟨[(3, none)], [], none⟩,
      ⟨[(0, none)], [], none⟩,
      ⟨[(16, some (7, false))], [0, 1, 7], some (1, 1, true)⟩,
      ⟨[(17, some (8, false))], [0, 1, 7, 8], none⟩,
      ⟨[(5, none)], [], none⟩,
      ⟨[(14, some (5, false)), (15, some (6, false)), (18, some (9, false)), (19, some (10, false))], [0, 1, 5, 6, 7, 8, 9, 10], some (1, 2, true)⟩,
      ⟨[(11, some (2, false)), (12, some (3, false)), (13, some (4, false)), (20, some (11, false))], [0, 1, 2, 3, 4, 5, 6, 7, 8, 9, 10, 11], none⟩,
      ⟨[(4, none), (21, some (12, false))], [0, 1, 2, 3, 4, 5, 6, 7, 8, 9, 10, 11, 12], some (0, 0, true)⟩] [_, _] _ rfl rfl ?_
  refine dq_pure rfl (fun s => .g rfl (.nil)) (fun s hs _ => loc_move rfl) (by exact .cons (.inr fun _ _ _ => rfl) (.nil)) ?_
  refine dq_write rfl (fun s => .op rfl (.nil)) rfl rfl (fun s hs => loc_callM (pick_spec b _ _ (by assumption) (by omega)) rfl) (by exact .cons (.inr fun _ _ _ => ⟨rfl, rfl⟩) (.nil)) ?_
  first | refine dq_pure rfl (fun s => .op rfl (.nil)) (fun s hs _ => loc_add rfl rfl (by first | omega | assumption | (simp; omega))) (by exact .cons (.inr fun _ _ _ => rfl) (.nil)) ?_ | refine dq_pure rfl (fun s => .op rfl (.nil)) (fun s hs _ => loc_addW rfl rfl) (by exact .cons (.inr fun _ _ _ => rfl) (.nil)) ?_
  refine dq_pure rfl (fun s => .g rfl (.nil)) (fun s hs _ => loc_loadN rfl rfl) (by exact .cons (.inr fun _ _ _ => rfl) (.nil)) ?_
  refine dq_pure rfl (fun s => .g rfl (.nil)) (fun s hs _ => loc_move rfl) (by exact .cons (.inr fun _ _ _ => rfl) (.nil)) ?_
  refine dq_pure rfl (fun s => .g rfl (.nil)) (fun s hs _ => loc_move rfl) (by exact .cons (.inr fun _ _ _ => rfl) (.nil)) ?_
  refine dq_pure rfl (fun s => .g rfl (.nil)) (fun s hs _ => loc_loadN rfl rfl) (by exact .cons (.inr fun _ _ _ => rfl) (.nil)) ?_
  refine dq_pure rfl (fun s => .g rfl (.nil)) (fun s hs _ => loc_move rfl) (by exact .cons (.inr fun _ _ _ => rfl) (.nil)) ?_
  refine dq_write rfl (fun s => .op rfl (.nil)) rfl rfl (fun s hs => loc_callM (pick_spec b _ _ (by assumption) (by omega)) rfl) (by exact .cons (.inr fun _ _ _ => ⟨rfl, rfl⟩) (.nil)) ?_
  first | refine dq_pure rfl (fun s => .op rfl (.nil)) (fun s hs _ => loc_add rfl rfl (by first | omega | assumption | (simp; omega))) (by exact .cons (.inr fun _ _ _ => rfl) (.nil)) ?_ | refine dq_pure rfl (fun s => .op rfl (.nil)) (fun s hs _ => loc_addW rfl rfl) (by exact .cons (.inr fun _ _ _ => rfl) (.nil)) ?_
  refine dq_pure rfl (fun s => .g rfl (.nil)) (fun s hs _ => loc_move rfl) (by exact .cons (.inr fun _ _ _ => rfl) (.nil)) ?_
  refine dq_choose id (fun _ t => t) rfl (fun _ _ => ⟨rfl, id, trivial⟩) (fun s => .op rfl (.op rfl (.op rfl (.op rfl (.nil))))) rfl rfl (fun s hs => loc_callM (drows_spec b _ (by assumption) p _ _ ⟨by omega, by omega⟩ (by omega) (by omega)) rfl) (by exact .cons (.inl rfl) (.nil)) (fun _ _ => rfl) ?_
  refine dq_pure rfl (fun s => .op rfl (.op rfl (.op rfl (.op rfl (.nil))))) (fun s hs _ => loc_build (.one rfl rfl rfl (.agg rfl rfl rfl rfl (.one rfl rfl rfl (.one rfl rfl rfl (.nil)))))) (by exact .cons (.inl rfl) (.nil)) ?_
  refine dq_write0 rfl (fun s => .g rfl (.op rfl (.nil))) rfl rfl (fun s hs => loc_storeN (ho := (by show OneAll [_, _, _, _]; infer_instance)) rfl rfl rfl) (by exact .cons (.inl rfl) (.nil)) ?_
  refine dq_end (rs := [_, _]) ([], d) rfl (fun _ => rfl) (.cons rfl (.nil)) rfl (fun _ => rfl) (fun r9 h9 => ?_)
  obtain hr9 := Ch.one_good h9
  dsimp only [outG, outM, List.map, List.set, id]
  refine run_retG ((⟨1 + d.next.val 3, p, 1 + d.val 3, r9.1⟩, r9.2)) Tryz.func35 rfl (.cellN rfl (by first | exact .here | exact .there .here | exact .there (.there .here) | exact .there (.there (.there .here)) | exact .there (.there (.there (.there .here))) | exact .there (.there (.there (.there (.there .here))))) (by rfl) (.nil)) ?_ (⟨dieT_of hp (by omega) (by omega) (by omega) hr9.1, hr9.2⟩) (fun _ _ h => h.sub (.cons _ (.cons_cons _ (.refl _))))
  exact fun _ _ h => h

end Go.Q
