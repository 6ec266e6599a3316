/- Own rows whose handles lie in an element of an own block; lengths of own rows: what is proved here holds of every program. -/
import Derived.Test.YtgaalfgmgmpnbaaGreatQServer2
import Derived.Test.YtgaalfgmgmpnbaaGreatQOps8
set_option linter.unusedVariables false
set_option linter.unusedSimpArgs false
namespace Go.Q
variable {P : Program} {f : FuncId} {N : Nat} {I0 : Imm} {R : Goal} {g : G} {M : List Res} {k : List Item}

theorem run_rowLen {α : Type} {v : Value} {T n : Nat} {f' : α → List D} {xs : List α} (hm : In (rRow v T n f' xs) M) (h : ∀ ad cap, v = .slice ad xs.length cap → Run P f N I0 R g M k) : Run P f N I0 R g M k := by
  constructor
  intro I a w b cs hb hk hl hs hi
  obtain ⟨s, t, e⟩ := List.append_of_mem hm.mem
  have hi' := hi
  rw [e] at hi'
  rcases row_cases (hi'.perm List.perm_middle) with ⟨h1, h2⟩ | ⟨b', cap, cs', h2, _⟩
  · exact (h none 0 (by rw [h1, h2]; rfl)).go I a w b cs hb hk hl hs hi
  · exact (h _ cap h2).go I a w b cs hb hk hl hs hi

theorem loc_lenV {dst : Option Tmp} {ty : TypeId} {pos : String} {after : Array Edge} {gd : Option (Nat × Bool)} {t : TypeId} {e : TypeId} [ht : TySl P t e] {x : Operand} {ad : Option Addr} {n cap : Nat} (hx : opd g x = some (dSlV (.slice ad n cap))) :
    LocP P ⟨dst, .call ⟨.builtin .len, #[x], #[t]⟩, ty, pos, after, gd⟩ g N M (dInt .i64 (n : Nat)) :=
  locP_of_run fun I a w hs hi => by
    have hp : a.eval x = .slice ad n cap := (opd_sound hs hx).1
    refine ⟨.int .i64 n, ?_, rfl⟩
    simp [execOp, resolve, invoke, builtin, Builtin.len_, hp, run_underlying ht.eq, goInt]

theorem relL_bufAt {els : List (List D)} {ds : List D} {q o : Nat} {v : Value} {d : D} {J : Imm} {vs : List Value} (hq : els[q]? = some ds) (ho : ds[o]? = some (dSlV v)) (hd : d.rel J v) (h : relL els.flatten J vs) : relL (els.set q (ds.set o d)).flatten J vs := by
  obtain ⟨hq1, hq2⟩ := List.getElem?_eq_some_iff.1 hq
  obtain ⟨ho1, ho2⟩ := List.getElem?_eq_some_iff.1 ho
  have e1 : els = els.take q ++ ds :: els.drop (q + 1) := by
    conv => lhs; rw [← List.take_append_drop q els, List.drop_eq_getElem_cons hq1, hq2]
  have e2 : ds = ds.take o ++ dSlV v :: ds.drop (o + 1) := by
    conv => lhs; rw [← List.take_append_drop o ds, List.drop_eq_getElem_cons ho1, ho2]
  have e3 : ds.set o d = ds.take o ++ d :: ds.drop (o + 1) := by rw [List.set_eq_take_append_cons_drop, if_pos ho1]
  have e4 : els.set q (ds.set o d) = els.take q ++ (ds.set o d) :: els.drop (q + 1) := by rw [List.set_eq_take_append_cons_drop, if_pos hq1]
  rw [e4, List.flatten_append, List.flatten_cons, e3]
  rw [e1, List.flatten_append, List.flatten_cons] at h
  rw [e2] at h
  simp only [List.append_assoc, List.cons_append] at h ⊢
  have h5 := relL_swap (A := (els.take q).flatten ++ ds.take o) (B := ds.drop (o + 1) ++ (els.drop (q + 1)).flatten) (Imm.le_refl J) hd (by simpa using h)
  simpa using h5

theorem run_freezeRowBuf {b T' n' q o : Nat} {els : List (List D)} {ds : List D} {C C' : Res → List Res} {F F' : List Res} {α : Type} {T n : Nat} {f' : α → List D} {xs : List α} {v : Value} (hm : Sel (rRow v T n f' xs) M C F) (hc : Sel (rBuf b T' n' els) F C' F') (hq : els[q]? = some ds) (ho : ds[o]? = some (dSlV v))
    (h : Run P f N I0 R g (C' (rBuf b T' n' (els.set q (ds.set o (dSl n f' xs))))) k) : Run P f N I0 R g M k := by
  refine run_turn (fun I a w hsl hi => ?_) h
  obtain ⟨J, hle, hd, hi'⟩ := row_freeze (hi.perm hm.perm.1)
  refine ⟨J, hle, hsl.mono hle, ?_⟩
  have h2 := hi'.perm hc.perm.1
  refine Inv.perm ?_ (hc.perm.2 _)
  refine ⟨h2.os, h2.tape, h2.output, h2.imm, fun r hr => ?_, h2.apart⟩
  rcases List.mem_cons.1 hr with rfl | hr
  · obtain ⟨hb, ob, h3, cs, h4, h5, h6⟩ := h2.own _ (List.mem_cons_self ..)
    refine ⟨hb, ob, h3, cs, h4, fun e he => ?_, relL_bufAt hq ho hd h6⟩
    rcases List.mem_or_eq_of_mem_set he with he | rfl
    · exact h5 e he
    · rw [List.length_set]; exact h5 ds (List.mem_of_getElem? hq)
  · exact h2.own r (List.mem_cons_of_mem _ hr)
/-- A row of values told asL lists of descriptors. -/
theorem row_ids {α : Type} {v : Value} {T n : Nat} {f' : α → List D} {xs : List α} {I : Imm} {F : List Res} {w : World} (h : Inv I (rRow v T n f' xs :: F) w) : Inv I (rRow v T n (fun l : List D => l) (xs.map f') :: F) w := by
  have e : rRow v T n f' xs = rRow v T n (fun l : List D => l) (xs.map f') := by
    unfold rRow
    simp only [List.length_map, List.flatMap_map, List.mem_map, forall_exists_index, and_imp, forall_apply_eq_imp_iff₂, List.map_eq_nil_iff]
  rw [← e]; exact h
/-- A call that makes two resources. -/
theorem run_callN2 {ops : Array Oper} {rest : List Oper} {dst : Tmp} {ty : TypeId} {pos : String} {after : Array Edge} {fn : FuncId} [hf : TyFn P fn] {xs : List Operand} {ats : Array TypeId} {Ds : List D} {σ τ : Type} {d : σ × τ → D} {r1 r2 : σ × τ → Res} (hx : opds g xs = some Ds) (hsp : Spec P fn Ds [] (σ := σ × τ) (fun _ => True) d (fun s => [r1 s, r2 s])) (hN : Nat.blt dst N = true)
    (h : ∀ a b, RunL P f N I0 R ((dst, d (a, b)) :: g) (r1 (a, b) :: r2 (a, b) :: M) ops rest k) : RunL P f N I0 R g M ops (⟨some dst, .call ⟨.value (.func fn), xs.toArray, ats⟩, ty, pos, after, none⟩ :: rest) k :=
  run_opM (Min := []) (F := M) (loc_callM hsp hx) hN (fun s _ => h s.1 s.2)
end Go.Q

namespace Go.Q
open Go.Proofs

open Classical
theorem mwithin_spec (n : Int) : SpecP Tryz.prog 102 [dInt .i64 n] (dB (1 ≤ n ∧ n < 2147483647)) := by
  refine specP_of_body Tryz.func102 rfl rfl (fun I M => ?_)
  refine run_seq ?_
  refine run_region ?_
  refine run_op (loc_assign rfl) rfl ?_
  refine run_nil ?_
  refine run_seq ?_
  refine run_region ?_
  refine run_op (loc_move rfl) rfl ?_
  refine run_op (loc_geq rfl rfl) rfl ?_
  refine run_op (loc_move rfl) rfl ?_
  refine run_gfirst rfl rfl (by first | exact guard_true _ | exact guard_false _ | exact guard_if (guard_true _) | exact guard_if (guard_false _)) (fun hg => loc_move rfl) rfl ?_
  refine run_gop rfl rfl (by first | exact guard_true _ | exact guard_false _ | exact guard_if (guard_true _) | exact guard_if (guard_false _)) (fun hg => loc_lss rfl rfl) rfl ?_
  refine run_gleave ?_
  refine run_op (loc_and rfl rfl) rfl ?_
  refine run_op (loc_assign rfl) rfl ?_
  refine run_nil ?_
  refine run_retP Tryz.func102 rfl rfl ?_
  exact fun _ _ h => h

theorem sign_spec (s : Int) (l : List Int) : SpecP Tryz.prog 51 [dInt .i64 s, dInts l] (dTup [dInt .i64 (signM s l), dInt .i64 (signE s l)]) := by
  refine specP_of_body Tryz.func51 rfl rfl (fun I M => ?_)
  refine run_seq ?_
  refine run_region ?_
  refine run_op (loc_assign rfl) rfl ?_
  refine run_op (loc_assign rfl) rfl ?_
  refine run_nil ?_
  refine run_seq ?_
  refine run_seq ?_
  refine run_region ?_
  refine run_op (loc_move rfl) rfl ?_
  refine run_op (loc_call (mwithin_spec _) rfl) rfl ?_
  refine run_op (loc_not rfl) rfl ?_
  refine run_nil ?_
  refine run_cond rfl (fun h1 => ?_) (fun h1 => ?_)
  ·
    have hE : signE s l = 1 := by unfold signE; rw [if_pos h1]
    refine run_seq ?_
    refine run_region ?_
    refine run_op (loc_assign rfl) rfl ?_
    refine run_op (loc_assign rfl) rfl ?_
    refine run_nil ?_
    refine run_ret2P Tryz.func51 rfl rfl rfl ?_
    exact d_tup2 (d_int (by unfold signM; rw [if_neg (by omega)])) (d_int hE.symm)
  ·
    have c1 := Classical.not_not.1 h1
    refine run_skip ?_
    refine run_seq ?_
    refine run_seq ?_
    refine run_region ?_
    refine run_op (loc_move rfl) rfl ?_
    first | refine runL_fact (s := 9) rfl (fun _ _ h => dSl_len h) (fun hlen2 => ?_) | skip
    refine run_op (loc_len rfl) rfl ?_
    refine run_op (loc_gtr rfl rfl) rfl ?_
    refine run_nil ?_
    refine run_cond rfl (fun h3 => ?_) (fun h3 => ?_)
    ·
      have hE : signE s l = 4 := by unfold signE; rw [if_neg (Classical.not_not.2 c1), if_pos (by omega)]
      refine run_seq ?_
      refine run_region ?_
      refine run_op (loc_assign rfl) rfl ?_
      refine run_op (loc_assign rfl) rfl ?_
      refine run_nil ?_
      refine run_ret2P Tryz.func51 rfl rfl rfl ?_
      exact d_tup2 (d_int (by unfold signM; rw [if_neg (by omega)])) (d_int hE.symm)
    ·
      have hE : signE s l = 0 := by unfold signE; rw [if_neg (Classical.not_not.2 c1), if_neg (by omega)]
      refine run_skip ?_
      refine run_seq ?_
      refine run_region ?_
      refine run_op (loc_move rfl) rfl ?_
      refine run_new (loc_buildOwn (f' := fI) (xs := [s]) rfl rfl (.one rfl (.nil)) rfl rfl rfl) rfl (fun b4 _ => ?_)
      refine run_op (loc_move rfl) rfl ?_
      refine run_upd (LocM.frz (loc_append rfl rfl rfl (by first | omega | (unfold lenMax; omega) | assumption | (simp; omega) | (simp [lenMax]; omega)) (by first | omega | (unfold lenMax; omega) | assumption | (simp; omega) | (simp [lenMax]; omega))) rfl) rfl (.here) (fun v5 hv5 => ?_)
      refine run_op (loc_call (row_spec _) rfl) rfl ?_
      refine run_op (loc_assign rfl) rfl ?_
      refine run_op (loc_assign rfl) rfl ?_
      refine run_nil ?_
      refine run_drop (.cons _ (.refl _)) ?_
      refine run_ret2P Tryz.func51 rfl rfl rfl ?_
      exact d_tup2 (d_int (by unfold signM; rw [if_pos hE]; rfl)) (d_int hE.symm)

def flatL (ls : List (List Int)) : List Int := ls.flatMap fun l => (l.length : Int) :: l
theorem flatL_snoc {ls : List (List Int)} {k : Nat} (h : k < ls.length) : flatL (ls.take (k + 1)) = flatL (ls.take k) ++ [((ls[k]?.getD default).length : Int)] ++ (ls[k]?.getD default) := by
  unfold flatL
  rw [take_snoc h, List.flatMap_append]; simp
theorem flatL_le {ls : List (List Int)} (h : ls.length ≤ 10 ∧ ∀ l ∈ ls, l.length ≤ 100000) : ∀ k, k ≤ ls.length → (flatL (ls.take k)).length ≤ k * 100001
  | 0, _ => by simp [flatL]
  | k + 1, hk => by
    have h1 := flatL_le h k (by omega)
    have h2 := h.2 _ (getD_mem (xs := ls) (k := k) (by omega))
    rw [flatL_snoc (by omega), List.length_append, List.length_append, List.length_singleton]; omega
theorem withLists_spec (v : Value) (out : List Int) (ls : List (List Int)) (h : ls.length ≤ 10 ∧ ∀ l ∈ ls, l.length ≤ 100000) (ho : out.length ≤ 100) : Spec Tryz.prog 66 [dVal v, dRows ls] [rRow v 3 1 fI out] (σ := Value) (fun _ => True) (fun u => dVal u) (fun u => [rRow u 3 1 fI (out ++ flatL ls)]) := by
  refine spec_of_body Tryz.func66 rfl rfl (fun I F => ?_)
  refine run_seq ?_
  refine run_region ?_
  refine run_op (loc_assign rfl) rfl ?_
  refine run_nil ?_
  refine run_seq ?_
  refine run_seq ?_
  refine run_region ?_
  refine run_op (loc_move rfl) rfl ?_
  first | refine runL_fact (s := 7) rfl (fun _ _ h => dSl_len h) (fun hlen1 => ?_) | skip
  refine run_op (loc_len rfl) rfl ?_
  refine run_op (loc_move rfl) rfl ?_
  refine run_nil ?_
  refine run_block ?_
  refine run_loopF (σ := Value × Nat) (ks := [7, 8]) (.cons rfl (.cons rfl (.nil))) (fun q => [(0, dVal q.1), (9, dInt .i64 (q.2 : Nat))]) (fun q => [rRow q.1 3 1 fI (out ++ flatL (ls.take q.2))]) (fun q => q.2 ≤ ls.length) (fun q => ls.length - q.2) ((v, 0)) (Nat.zero_le _) (.cons rfl (by first | exact fun _ _ h => h | exact d_int (by omega) | exact d_int (by simp) | exact d_intN (by omega) | exact d_any) (.cons rfl (by first | exact fun _ _ h => h | exact d_int (by omega) | exact d_int (by simp) | exact d_intN (by omega) | exact d_any) .nil)) (by simp only [appR]; rw [List.take_zero, show flatL [] = [] from rfl, List.append_nil]; rfl) ?_
  intro q hq ih2
  have hfl := flatL_le h q.2 hq
  have hol : (out ++ flatL (ls.take q.2)).length ≤ 2000000 := by rw [List.length_append]; omega
  refine run_seq ?_
  refine run_region ?_
  refine run_op (loc_lss rfl rfl) rfl ?_
  refine run_nil ?_
  refine run_seq ?_
  refine run_cond rfl (fun h3 => ?_) (fun h3 => ?_)
  ·
    have hlk := h.2 _ (getD_mem (xs := ls) (k := q.2) (by omega))
    have hol2 : (out ++ flatL (ls.take q.2) ++ [((ls[q.2]?.getD default).length : Int)]).length ≤ 2000001 := by rw [List.length_append, List.length_singleton]; omega
    refine run_skip ?_
    refine run_seq ?_
    refine run_block ?_
    refine run_seq ?_
    refine run_region ?_
    first | refine run_op (loc_index rfl rfl (by first | omega | assumption)) rfl ?_ | refine run_op (loc_indexI rfl rfl (by first | omega | assumption)) rfl ?_
    refine run_op (loc_load1 rfl) rfl ?_
    refine run_op (loc_assign rfl) rfl ?_
    refine run_nil ?_
    refine run_region ?_
    refine run_op (loc_move rfl) rfl ?_
    refine run_op (loc_move rfl) rfl ?_
    first | refine runL_fact (s := 14) rfl (fun _ _ h => dSl_len h) (fun hlen4 => ?_) | skip
    refine run_op (loc_len rfl) rfl ?_
    refine run_op (loc_buildSlice rfl rfl (.one rfl (.nil)) rfl rfl) rfl ?_
    refine run_append1 rfl (.here) rfl (by rfl) (by rfl) (by first | omega | (unfold lenMax; omega) | assumption | (simp; omega) | (simp [lenMax]; omega)) (by first | omega | (unfold lenMax; omega) | assumption | (simp; omega) | (simp [lenMax]; omega)) rfl (fun v5 => ?_)
    refine run_op (loc_move rfl) rfl ?_
    refine run_append rfl (.here) rfl (by rfl) (by first | omega | (unfold lenMax; omega) | assumption | (simp; omega) | (simp [lenMax]; omega)) (by first | omega | (unfold lenMax; omega) | assumption | (simp; omega) | (simp [lenMax]; omega)) rfl (fun v6 => ?_)
    refine run_op (loc_assign rfl) rfl ?_
    refine run_nil ?_
    refine run_inBlock ?_
    refine run_region ?_
    first | refine run_op (loc_add rfl rfl (by first | omega | assumption)) rfl ?_ | refine run_op (loc_addW rfl rfl) rfl ?_
    refine run_op (loc_move rfl) rfl ?_
    refine run_nil ?_
    exact run_againF ih2 ((v6, q.2 + 1)) (by simp only; omega) (by simp only; omega) (.cons rfl (by first | exact fun _ _ h => h | exact d_int (by omega) | exact d_int (by simp) | exact d_intN (by omega) | exact d_any) (.cons rfl (by first | exact fun _ _ h => h | exact d_int (by omega) | exact d_int (by simp) | exact d_intN (by omega) | exact d_any) .nil)) (.cons rfl (fun _ _ x => x) (.cons rfl (fun _ _ x => x) (.nil))) (by simp only [appR]; rw [flatL_snoc (by omega)]; simp only [List.append_assoc])
  ·
    refine run_exit rfl ?_
    refine run_seq ?_
    refine run_region ?_
    refine run_op (loc_move rfl) rfl ?_
    refine run_op (loc_assign rfl) rfl ?_
    refine run_nil ?_
    refine run_ret (q.1) Tryz.func66 rfl rfl ?_ (trivial) (fun I w h => by rw [List.take_of_length_le (by omega)] at h; exact h)
    exact fun _ _ h => h

theorem numbers_spec (n : Nte) (hn : n.query.length ≤ 100000 ∧ n.values.length ≤ 100000) : SpecP Tryz.prog 26 [dNte n] (dInts (numsN n)) := by
  refine specP_of_body Tryz.func26 rfl rfl (fun I M => ?_)
  refine run_seq ?_
  refine run_region ?_
  refine run_op (loc_boxN rfl) rfl ?_
  refine run_op (loc_assign rfl) rfl ?_
  refine run_nil ?_
  refine run_seq ?_
  refine run_region ?_
  refine run_op (loc_fieldAddr rfl) rfl ?_
  refine run_op (loc_load1 rfl) rfl ?_
  refine run_op (loc_fieldAddr rfl) rfl ?_
  refine run_op (loc_load1 rfl) rfl ?_
  refine run_op (loc_fieldAddr rfl) rfl ?_
  refine run_op (loc_load1 rfl) rfl ?_
  refine run_op (loc_fieldAddr rfl) rfl ?_
  refine run_op (loc_load1 rfl) rfl ?_
  refine run_op (loc_fieldAddr rfl) rfl ?_
  refine run_op (loc_load1 rfl) rfl ?_
  refine run_new (loc_buildOwn (f' := fI) (xs := [n.kind, n.read, n.probe, n.server, n.version]) rfl rfl (.one rfl (.one rfl (.one rfl (.one rfl (.one rfl (.nil)))))) rfl rfl rfl) rfl (fun b1 _ => ?_)
  refine run_op (loc_fieldAddr rfl) rfl ?_
  refine run_op (loc_load1 rfl) rfl ?_
  refine run_op (loc_fieldAddr rfl) rfl ?_
  refine run_op (loc_load1 rfl) rfl ?_
  refine run_op (loc_buildSlice rfl rfl (.one rfl (.one rfl (.nil))) rfl rfl) rfl ?_
  refine runL_recast (s := 18) rfl (d_sl (ys := [n.query, n.values]) (h := fR) rfl) ?_
  refine run_callM rfl (.here) (withLists_spec _ _ [n.query, n.values] ⟨by simp, fun l hl => by rcases List.mem_cons.1 hl with rfl | hl; (· exact hn.1); (· rw [List.mem_singleton.1 hl]; exact hn.2)⟩ (by simp)) rfl (fun s2 hs2 => ?_)
  refine run_op (loc_assign rfl) rfl ?_
  refine run_nil ?_
  refine run_freezeRow (s := 2) rfl (.here) ?_
  refine run_retP Tryz.func26 rfl rfl ?_
  exact d_eq (by unfold numsN flatL; simp)

noncomputable def wordQ (h : Held) (q : List Int) (n : Nat) (lie : Int) : Int := if n = 0 then (dotK h.head.p n h.rows q h.rows.length + lie % h.head.p) % h.head.p else dotK h.head.p n h.rows q h.rows.length
theorem dotK_bd {p : Int} (hp : 0 < p) (d : Nat) (rows : List (List Int)) (q : List Int) (k : Nat) : 0 ≤ dotK p d rows q k ∧ dotK p d rows q k < p := by
  cases k with
  | zero => exact ⟨Int.le_refl _, hp⟩
  | succ k => exact mod_bd _ hp
theorem sword_spec (h : Held) (rd pr ve : Int) (q : List Int) (ad : Option Addr) (n cap : Nat) (lie : Int) (hh : okHeld h) (hq : q.length = h.rows.length) (hn : (n : Int) < h.head.width) (hqa : allP h.head.p q) : SpecP Tryz.prog 50 [dHeld h, dAgg [dInt .i64 rd, dInt .i64 pr, dInt .i64 ve, dInts q, dSlV (.slice ad n cap)], dInt .i64 lie] (dInt .i64 (wordQ h q n lie)) := by
  obtain ⟨hh1, hh2, hh3, hh4⟩ := hh
  have hp1 := hh1.1
  have hp2 := hh1.2.1
  refine specP_of_body Tryz.func50 rfl rfl (fun I M => ?_)
  refine run_seq ?_
  refine run_region ?_
  refine run_op (loc_boxN rfl) rfl ?_
  refine run_op (loc_boxN rfl) rfl ?_
  refine run_op (loc_assign rfl) rfl ?_
  refine run_nil ?_
  refine run_seq ?_
  refine run_region ?_
  refine run_op (loc_fieldAddr rfl) rfl ?_
  refine run_op (loc_fieldAddr rfl) rfl ?_
  refine run_op (loc_load1 rfl) rfl ?_
  refine run_op (loc_build (.one rfl rfl rfl (.nil))) rfl ?_
  refine run_new (loc_allocOwn (by simp)) rfl (fun b1 _ => ?_)
  refine run_storeN (ho := (by show OneAll [_]; infer_instance)) rfl rfl (.here) (by rfl) ?_
  refine run_nil ?_
  refine run_seq ?_
  refine run_region ?_
  refine run_op (loc_assign rfl) rfl ?_
  refine run_nil ?_
  refine run_seq ?_
  refine run_seq ?_
  refine run_region ?_
  refine run_op (loc_fieldAddr rfl) rfl ?_
  refine run_op (loc_load1 rfl) rfl ?_
  first | refine runL_fact (s := 16) rfl (fun _ _ h => dSl_len h) (fun hlen2 => ?_) | skip
  refine run_op (loc_len rfl) rfl ?_
  refine run_op (loc_move rfl) rfl ?_
  refine run_nil ?_
  refine run_block ?_
  refine run_loopC (σ := Nat) (ks := [2, 4, 7, 16, 17]) (.cons rfl (.cons rfl (.cons rfl (.cons rfl (.cons rfl (.nil)))))) (fun k => [(8, dInt .i64 (dotK h.head.p n h.rows q k)), (18, dInt .i64 (k : Nat))]) (fun k => k ≤ h.rows.length) (fun k => h.rows.length - k) (0) (Nat.zero_le _) (.cons rfl (by first | exact fun _ _ h => h | exact d_int (by omega) | exact d_int (by simp) | exact d_intN (by omega) | exact d_any) (.cons rfl (by first | exact fun _ _ h => h | exact d_int (by omega) | exact d_int (by simp) | exact d_intN (by omega) | exact d_any) .nil)) ?_
  intro k hk ih3
  have hdb := dotK_bd (show 0 < h.head.p by omega) n h.rows q k
  refine run_seq ?_
  refine run_region ?_
  refine run_op (loc_lss rfl rfl) rfl ?_
  refine run_nil ?_
  refine run_seq ?_
  refine run_cond rfl (fun h4 => ?_) (fun h4 => ?_)
  ·
    have hr1 := hh4 _ (getD_mem (xs := h.rows) (k := k) (by omega))
    have hr2 := hr1.1
    have hr3 := hr1.2 _ (getD_mem (xs := h.rows[k]?.getD default) (k := n) (by omega))
    have hr4 := hqa _ (getD_mem (xs := q) (k := k) (by omega))
    unfold hasP at hr3 hr4
    have hmm := mul_bd (a := (h.rows[k]?.getD default)[n]?.getD default) (b := q[k]?.getD default) (A := 65521) (B := 65521) (by omega) (by omega) (by omega) (by omega)
    refine run_skip ?_
    refine run_seq ?_
    refine run_block ?_
    refine run_seq ?_
    refine run_region ?_
    refine run_op (loc_move rfl) rfl ?_
    first | refine run_op (loc_index rfl rfl (by first | omega | assumption)) rfl ?_ | refine run_op (loc_indexI rfl rfl (by first | omega | assumption)) rfl ?_
    refine run_op (loc_load1 rfl) rfl ?_
    refine run_op (loc_assign rfl) rfl ?_
    refine run_op (loc_assign rfl) rfl ?_
    refine run_nil ?_
    refine dr_start _ (.none) [⟨[(8, none)], [], none⟩,
        ⟨[(10, none)], [], none⟩,
        ⟨[(4, none)], [], none⟩,
        ⟨[(25, some (2, false))], [2], none⟩,
        ⟨[(26, some (3, false))], [2, 3], none⟩,
        ⟨[(24, some (1, false)), (27, some (4, false))], [1, 2, 3, 4], none⟩,
        ⟨[(28, some (5, false))], [1, 2, 3, 4, 5], none⟩,
        ⟨[(4, none)], [], none⟩,
        ⟨[(30, some (7, false))], [7], none⟩,
        ⟨[(9, none)], [], none⟩,
        ⟨[(31, some (8, false)), (32, some (9, false))], [7, 8, 9], none⟩,
        ⟨[(33, some (10, false))], [7, 8, 9, 10], none⟩,
        ⟨[(29, some (6, false)), (34, some (11, false))], [1, 2, 3, 4, 5, 6, 7, 8, 9, 10, 11], none⟩,
        ⟨[(23, some (0, false)), (35, some (12, false))], [0, 1, 2, 3, 4, 5, 6, 7, 8, 9, 10, 11, 12], none⟩,
        ⟨[(7, none)], [], none⟩,
        ⟨[(37, some (14, false))], [14], some (0, 0, false)⟩,
        ⟨[(36, some (13, false)), (38, some (15, false))], [0, 1, 2, 3, 4, 5, 6, 7, 8, 9, 10, 11, 12, 13, 14, 15], none⟩,
        ⟨[(39, some (16, false))], [0, 1, 2, 3, 4, 5, 6, 7, 8, 9, 10, 11, 12, 13, 14, 15, 16], none⟩] [_] _ rfl rfl ?_
    refine dq_pure rfl (fun s => .g rfl (.nil)) (fun s hs _ => loc_move rfl) (by exact .nil) ?_
    refine dq_pure rfl (fun s => .g rfl (.nil)) (fun s hs _ => loc_move rfl) (by exact .nil) ?_
    refine dq_pure rfl (fun s => .g rfl (.nil)) (fun s hs _ => loc_fieldAddr rfl) (by exact .nil) ?_
    refine dq_pure rfl (fun s => .op rfl (.nil)) (fun s hs _ => loc_load1 rfl) (by exact .nil) ?_
    refine dq_pure rfl (fun s => .op rfl (.nil)) (fun s hs _ => loc_lenV rfl) (by exact .nil) ?_
    first | refine dq_pure rfl (fun s => .op rfl (.op rfl (.nil))) (fun s hs _ => loc_index rfl rfl (by first | omega | assumption)) (by exact .nil) ?_ | refine dq_pure rfl (fun s => .op rfl (.op rfl (.nil))) (fun s hs _ => loc_indexI rfl rfl (by first | omega | assumption)) (by exact .nil) ?_
    refine dq_pure rfl (fun s => .op rfl (.nil)) (fun s hs _ => loc_load1 rfl) (by exact .nil) ?_
    refine dq_pure rfl (fun s => .g rfl (.nil)) (fun s hs _ => loc_fieldAddr rfl) (by exact .nil) ?_
    refine dq_pure rfl (fun s => .op rfl (.nil)) (fun s hs _ => loc_load1 rfl) (by exact .nil) ?_
    refine dq_pure rfl (fun s => .g rfl (.nil)) (fun s hs _ => loc_move rfl) (by exact .nil) ?_
    first | refine dq_pure rfl (fun s => .op rfl (.op rfl (.nil))) (fun s hs _ => loc_index rfl rfl (by first | omega | assumption)) (by exact .nil) ?_ | refine dq_pure rfl (fun s => .op rfl (.op rfl (.nil))) (fun s hs _ => loc_indexI rfl rfl (by first | omega | assumption)) (by exact .nil) ?_
    refine dq_pure rfl (fun s => .op rfl (.nil)) (fun s hs _ => loc_load1 rfl) (by exact .nil) ?_
    first | refine dq_pure rfl (fun s => .op rfl (.op rfl (.nil))) (fun s hs _ => loc_mul rfl rfl (by first | omega | assumption)) (by exact .nil) ?_ | refine dq_pure rfl (fun s => .op rfl (.op rfl (.nil))) (fun s hs _ => loc_mulW rfl rfl) (by exact .nil) ?_
    first | refine dq_pure rfl (fun s => .op rfl (.op rfl (.nil))) (fun s hs _ => loc_add rfl rfl (by first | omega | assumption)) (by exact .nil) ?_ | refine dq_pure rfl (fun s => .op rfl (.op rfl (.nil))) (fun s hs _ => loc_addW rfl rfl) (by exact .nil) ?_
    refine dq_pure rfl (fun s => .g rfl (.nil)) (fun s hs _ => loc_fieldAddrOwn rfl) (by exact .nil) ?_
    refine dq_read rfl (fun s => .op rfl (.nil)) rfl rfl (fun s hs _ hm => loc_loadOwn1 rfl hm (by rfl)) (by exact .nil) ?_
    first | refine dq_pure rfl (fun s => .op rfl (.op rfl (.nil))) (fun s hs _ => loc_rem rfl rfl (by first | omega | assumption)) (by exact .nil) ?_ | refine dq_pure rfl (fun s => .op rfl (.op rfl (.nil))) (fun s hs _ => loc_remW rfl rfl (by first | omega | assumption)) (by exact .nil) ?_
    refine dq_pure rfl (fun s => .op rfl (.nil)) (fun s hs _ => loc_assign rfl) (by exact .nil) ?_
    refine dq_end (rs := [_]) () rfl (fun _ => rfl) (.nil) rfl (fun _ => rfl) (fun _ _ => ?_)
    dsimp only [outG, outM, List.map, List.set, id]
    refine run_inBlock ?_
    refine run_region ?_
    first | refine run_op (loc_add rfl rfl (by first | omega | assumption)) rfl ?_ | refine run_op (loc_addW rfl rfl) rfl ?_
    refine run_op (loc_move rfl) rfl ?_
    refine run_nil ?_
    exact run_againC ih3 (k + 1) (by omega) (by omega) (.cons rfl (by first | exact fun _ _ h => h | exact d_int (by omega) | exact d_int (by simp) | exact d_intN (by omega) | exact d_any) (.cons rfl (by first | exact fun _ _ h => h | exact d_int (by omega) | exact d_int (by simp) | exact d_intN (by omega) | exact d_any) .nil)) (.cons rfl (fun _ _ x => x) (.cons rfl (fun _ _ x => x) (.cons rfl (fun _ _ x => x) (.cons rfl (fun _ _ x => x) (.cons rfl (fun _ _ x => x) (.nil))))))
  ·
    refine run_exit rfl ?_
    refine run_seq ?_
    refine run_seq ?_
    refine run_region ?_
    refine run_op (loc_fieldAddr rfl) rfl ?_
    refine run_op (loc_load1 rfl) rfl ?_
    first | refine runL_fact (s := 42) rfl (fun _ _ h => dSl_len h) (fun hlen5 => ?_) | skip
    refine run_op (loc_lenV rfl) rfl ?_
    refine run_op (loc_eql rfl rfl) rfl ?_
    refine run_nil ?_
    refine run_joinC (σ := Int) (ks := []) (.nil) (fun u => [(8, dInt .i64 u)]) (fun u => u = wordQ h q n lie) (fun j6 => ?_) ?_
    ·
      refine run_cond rfl (fun h7 => ?_) (fun h7 => ?_)
      ·
        have c3 : n = 0 := by omega
        have hlb := mod_bd lie (show 0 < h.head.p by omega)
        refine run_seq ?_
        refine run_region ?_
        refine run_op (loc_loadOwnN rfl (.here) (by rfl)) rfl ?_
        refine run_op (loc_move rfl) rfl ?_
        refine run_op (loc_call (reduceF_spec _ _ hh1) rfl) rfl ?_
        refine run_op (loc_move rfl) rfl ?_
        refine run_op (loc_extract rfl rfl) rfl ?_
        refine run_op (loc_extract rfl rfl) rfl ?_
        refine run_op (loc_assign rfl) rfl ?_
        refine run_nil ?_
        refine run_region ?_
        refine run_op (loc_move rfl) rfl ?_
        refine run_op (loc_move rfl) rfl ?_
        first | refine run_op (loc_add rfl rfl (by first | omega | assumption)) rfl ?_ | refine run_op (loc_addW rfl rfl) rfl ?_
        refine run_op (loc_fieldAddrOwn rfl) rfl ?_
        refine run_op (loc_loadOwn1 rfl (.here) (by rfl)) rfl ?_
        first | refine run_op (loc_rem rfl rfl (by first | omega | assumption)) rfl ?_ | refine run_op (loc_remW rfl rfl (by first | omega | assumption)) rfl ?_
        refine run_op (loc_assign rfl) rfl ?_
        refine run_nil ?_
        exact run_atC j6 ((dotK h.head.p n h.rows q k + lie % h.head.p) % h.head.p) (by unfold wordQ; rw [if_pos c3, show k = h.rows.length by omega]) (.cons rfl (by first | exact fun _ _ h => h | exact d_int (by omega) | exact d_int (by simp) | exact d_intN (by omega) | exact d_any) .nil) (.nil)
      ·
        have c3 : ¬ n = 0 := by omega
        refine run_skip ?_
        exact run_atC j6 (dotK h.head.p n h.rows q k) (by unfold wordQ; rw [if_neg c3, show k = h.rows.length by omega]) (.cons rfl (by first | exact fun _ _ h => h | exact d_int (by omega) | exact d_int (by simp) | exact d_intN (by omega) | exact d_any) .nil) (.nil)
    rintro u rfl
    refine run_seq ?_
    refine run_region ?_
    refine run_op (loc_move rfl) rfl ?_
    refine run_op (loc_assign rfl) rfl ?_
    refine run_nil ?_
    refine run_drop (.cons _ (.refl _)) ?_
    refine run_retP Tryz.func50 rfl rfl ?_
    exact fun _ _ h => h

end Go.Q

namespace Go.Q
open Go.Proofs

open Classical
abbrev cJobV (j : Job) (u : Value) : List D := [dInt .i64 j.read, dInt .i64 j.probe, dInt .i64 j.version, dInts j.query, dSlV u]
theorem relL4 {a b c d : D} {I : Imm} {vs : List Value} (h : relL [a, b, c, d] I vs) : ∃ u v x y, vs = [u, v, x, y] ∧ a.rel I u ∧ b.rel I v ∧ c.rel I x ∧ d.rel I y := by
  match vs, h with
  | [u, v, x, y], ⟨h1, h2, h3, h4, _⟩ => exact ⟨u, v, x, y, rfl, h1, h2, h3, h4⟩
theorem d_tup4 {a a' b b' c c' d d' : D} (h1 : ∀ I v, a.rel I v → a'.rel I v) (h2 : ∀ I v, b.rel I v → b'.rel I v) (h3 : ∀ I v, c.rel I v → c'.rel I v) (h4 : ∀ I v, d.rel I v → d'.rel I v) : ∀ I v, (dTup [a, b, c, d]).rel I v → (dTup [a', b', c', d']).rel I v := by
  rintro I v ⟨cs, e, r⟩
  obtain ⟨u, w, x, y, e2, r1, r2, r3, r4⟩ := relL4 r
  exact ⟨cs, e, by rw [e2]; exact ⟨h1 _ _ r1, h2 _ _ r2, h3 _ _ r3, h4 _ _ r4, trivial⟩⟩
theorem ownJobM_spec (j : Job) (hj : j.query.length ≤ 100000 ∧ j.got.length ≤ 100000) : Spec Tryz.prog 47 [dJob j] [] (σ := Value) (fun _ => True) (fun u => dAgg (cJobV j u)) (fun u => [rRow u 3 1 fI j.got]) := by
  refine spec_of_body Tryz.func47 rfl rfl (fun I F => ?_)
  refine run_seq ?_
  refine run_region ?_
  refine run_new (loc_boxOwnN rfl) rfl (fun b1 _ => ?_)
  refine run_new (loc_allocOwn (by simp)) rfl (fun b2 _ => ?_)
  refine run_nil ?_
  refine run_seq ?_
  refine run_addNone ?_
  refine dr_start _ (.one (σ := Value) 5 (fun _ => True)) [⟨[(1, none)], [], none⟩,
      ⟨[(3, some (0, false))], [0], some (2, 0, false)⟩,
      ⟨[(4, some (1, false))], [0, 1], none⟩,
      ⟨[(1, none)], [], none⟩,
      ⟨[(6, some (3, false))], [3], some (2, 0, false)⟩,
      ⟨[(7, some (4, false))], [0, 1, 2, 3, 4], some (0, 0, true)⟩,
      ⟨[(1, none)], [0, 1, 2, 3, 4], none⟩,
      ⟨[(9, some (6, false)), (5, some (2, false))], [0, 1, 2, 3, 4, 5, 6], some (2, 0, true)⟩,
      ⟨[(1, none)], [0, 1, 2, 3, 4, 5, 6, 7], none⟩,
      ⟨[(10, some (8, false)), (8, some (5, false))], [0, 1, 2, 3, 4, 5, 6, 7, 8], some (2, 1, true)⟩] [_, _, _] _ rfl rfl ?_
  refine dq_pure rfl (fun s => .g rfl (.nil)) (fun s hs _ => loc_fieldAddrOwn rfl) (by exact .cons (.inr fun _ _ _ => rfl) (.nil)) ?_
  refine dq_read rfl (fun s => .op rfl (.nil)) rfl rfl (fun s hs _ hm => loc_loadOwn1 rfl hm (by rfl)) (by exact .cons (.inr fun _ _ _ => rfl) (.nil)) ?_
  refine dq_pure rfl (fun s => .op rfl (.nil)) (fun s hs _ => loc_call (cloneI_spec _ (by omega)) rfl) (by exact .cons (.inr fun _ _ _ => rfl) (.nil)) ?_
  refine dq_pure rfl (fun s => .g rfl (.nil)) (fun s hs _ => loc_fieldAddrOwn rfl) (by exact .cons (.inr fun _ _ _ => rfl) (.nil)) ?_
  refine dq_read rfl (fun s => .op rfl (.nil)) rfl rfl (fun s hs _ hm => loc_loadOwn1 rfl hm (by rfl)) (by exact .cons (.inr fun _ _ _ => rfl) (.nil)) ?_
  refine dq_choose id (fun _ t => t) rfl (fun _ _ => ⟨rfl, id, trivial⟩) (fun s => .op rfl (.nil)) rfl rfl (fun s hs => locM_new (loc_callM (spec_rowV (cloneIM_spec _ (by omega))) rfl)) (by exact .cons (.inl rfl) (.nil)) (fun _ _ => rfl) ?_
  refine dq_pure rfl (fun s => .g rfl (.nil)) (fun s hs _ => loc_fieldAddrOwn rfl) (by exact .cons (.inr fun _ _ _ => rfl) (.nil)) ?_
  refine dq_write0 rfl (fun s => .op rfl (.op rfl (.nil))) rfl rfl (fun s hs => loc_store1 rfl rfl rfl) (by exact .cons (.inl rfl) (.nil)) ?_
  refine dq_pure rfl (fun s => .g rfl (.nil)) (fun s hs _ => loc_fieldAddrOwn rfl) (by exact .cons (.inl rfl) (.nil)) ?_
  refine dq_write0 rfl (fun s => .op rfl (.op rfl (.nil))) rfl rfl (fun s hs => loc_store1 rfl rfl rfl) (by exact .cons (.inl rfl) (.nil)) ?_
  refine dq_end (rs := [_, _, _]) (.bool true) rfl (fun _ => rfl) (.cons rfl (.nil)) rfl (fun _ => rfl) (fun v3 _ => ?_)
  dsimp only [outG, outM, List.map, List.set, id]
  refine run_seq ?_
  refine run_region ?_
  refine run_op (loc_loadOwnN rfl (.there (.there (.here))) (by rfl)) rfl ?_
  refine run_storeN (ho := (by show OneAll [_, _, _, _, _]; infer_instance)) rfl rfl (.there (.here)) (by rfl) ?_
  refine run_nil ?_
  refine run_retG (v3) Tryz.func47 rfl (.cellN rfl (by first | exact .here | exact .there .here | exact .there (.there .here) | exact .there (.there (.there .here)) | exact .there (.there (.there (.there .here))) | exact .there (.there (.there (.there (.there .here))))) (by rfl) (.nil)) ?_ (trivial) (fun _ _ h => h.sub (.cons_cons _ (.cons _ (.cons _ (.refl _)))))
  exact fun _ _ h => h

theorem ownW_spec (v : Srv) (hv : szSrv v) (j : Job) (hj : v.jobs = [j]) : Spec Tryz.prog 42 [dSrv v] [] (σ := Value × Value) (fun _ => True) (fun s => dAgg ([dInt .i64 v.id, dInt .i64 v.scheme.kind, dInt .i64 v.scheme.servers, dInt .i64 v.scheme.degree, dInt .i64 v.scheme.group, dB v.up] ++ [dSl 6 cHeld v.versions, dSlV s.1])) (fun s => [rRow s.1 93 5 (fun l : List D => l) [cJobV j s.2], rRow s.2 3 1 fI j.got]) := by
  obtain ⟨hv1, hv2, hv3, hv4⟩ := hv
  have hjz := hv4 j (by rw [hj]; exact List.mem_singleton_self _)
  have hjl : v.jobs.length = 1 := by rw [hj]; rfl
  have hjn : ([j] : List Job).length = 1 := rfl
  refine spec_of_body Tryz.func42 rfl rfl (fun I F => ?_)
  refine run_seq ?_
  refine run_region ?_
  refine run_new (loc_boxOwnN rfl) rfl (fun b1 _ => ?_)
  refine run_new (loc_allocOwn (by simp)) rfl (fun b2 _ => ?_)
  refine run_nil ?_
  refine run_seq ?_
  refine run_addNone ?_
  refine run_addNone ?_
  refine dr_start _ (.two (τ1 := Value) (τ2 := Value) 2 5 (fun _ => True) (fun _ => True)) [⟨[(1, none)], [], none⟩,
      ⟨[(7, some (0, false))], [0], some (3, 0, false)⟩,
      ⟨[(8, some (1, false))], [0, 1], some (1, 0, true)⟩,
      ⟨[(1, none)], [], none⟩,
      ⟨[(10, some (3, false))], [3], some (3, 0, false)⟩,
      ⟨[(11, some (4, false))], [0, 1, 2, 3, 4], some (0, 0, true)⟩,
      ⟨[(1, none)], [0, 1, 2, 3, 4], none⟩,
      ⟨[(13, some (6, false)), (9, some (2, false))], [0, 1, 2, 3, 4, 5, 6], some (3, 0, true)⟩,
      ⟨[(1, none)], [0, 1, 2, 3, 4, 5, 6, 7], none⟩,
      ⟨[(14, some (8, false)), (12, some (5, false))], [0, 1, 2, 3, 4, 5, 6, 7, 8], some (3, 1, true)⟩] [_, _, _, _] _ rfl rfl ?_
  refine dq_pure rfl (fun s => .g rfl (.nil)) (fun s hs _ => loc_fieldAddrOwn rfl) (by exact .cons (.inr fun s s' h => by obtain ⟨a, b⟩ := s; obtain ⟨c, d⟩ := s'; have h : d = b := h; subst h; exact rfl) (.cons (.inr fun s s' h => by obtain ⟨a, b⟩ := s; obtain ⟨c, d⟩ := s'; have h : c = a := h; subst h; exact rfl) (.nil))) ?_
  refine dq_read rfl (fun s => .op rfl (.nil)) rfl rfl (fun s hs _ hm => loc_loadOwn1 rfl hm (by rfl)) (by exact .cons (.inr fun s s' h => by obtain ⟨a, b⟩ := s; obtain ⟨c, d⟩ := s'; have h : d = b := h; subst h; exact rfl) (.cons (.inr fun s s' h => by obtain ⟨a, b⟩ := s; obtain ⟨c, d⟩ := s'; have h : c = a := h; subst h; exact rfl) (.nil))) ?_
  refine dq_choose Prod.fst (fun s t => (t, s.2)) rfl (fun _ _ => ⟨rfl, id, rfl⟩) (fun s => .op rfl (.nil)) rfl rfl (fun s hs => locM_new (loc_callM (spec_rowV (cloneHlM_spec _ (by omega))) rfl)) (by exact .cons (.inl rfl) (.cons (.inr (.inr fun s s' h => by obtain ⟨a, b⟩ := s; obtain ⟨c, d⟩ := s'; have h : c = a := h; subst h; exact rfl)) (.nil))) (fun _ _ => rfl) ?_
  refine dq_pure rfl (fun s => .g rfl (.nil)) (fun s hs _ => loc_fieldAddrOwn rfl) (by exact .cons (.inr fun s s' h => by obtain ⟨a, b⟩ := s; obtain ⟨c, d⟩ := s'; have h : d = b := h; subst h; exact rfl) (.cons (.inr fun s s' h => by obtain ⟨a, b⟩ := s; obtain ⟨c, d⟩ := s'; have h : c = a := h; subst h; exact rfl) (.nil))) ?_
  refine dq_read rfl (fun s => .op rfl (.nil)) rfl rfl (fun s hs _ hm => loc_loadOwn1 rfl hm (by rfl)) (by exact .cons (.inr fun s s' h => by obtain ⟨a, b⟩ := s; obtain ⟨c, d⟩ := s'; have h : d = b := h; subst h; exact rfl) (.cons (.inr fun s s' h => by obtain ⟨a, b⟩ := s; obtain ⟨c, d⟩ := s'; have h : c = a := h; subst h; exact rfl) (.nil))) ?_
  refine dq_choose Prod.snd (fun s t => (s.1, t)) rfl (fun _ _ => ⟨rfl, id, rfl⟩) (fun s => .op rfl (.nil)) rfl rfl (fun s hs => locM_new (loc_callM (spec_rowV (cloneJbM_spec _ (by omega))) rfl)) (by exact .cons (.inr (.inl rfl)) (.cons (.inl rfl) (.nil))) (fun _ _ => rfl) ?_
  refine dq_pure rfl (fun s => .g rfl (.nil)) (fun s hs _ => loc_fieldAddrOwn rfl) (by exact .cons (.inl rfl) (.cons (.inr fun s s' h => by obtain ⟨a, b⟩ := s; obtain ⟨c, d⟩ := s'; have h : c = a := h; subst h; exact rfl) (.nil))) ?_
  refine dq_write0 rfl (fun s => .op rfl (.op rfl (.nil))) rfl rfl (fun s hs => loc_store1 rfl rfl rfl) (by exact .cons (.inl rfl) (.cons (.inl rfl) (.nil))) ?_
  refine dq_pure rfl (fun s => .g rfl (.nil)) (fun s hs _ => loc_fieldAddrOwn rfl) (by exact .cons (.inl rfl) (.cons (.inl rfl) (.nil))) ?_
  refine dq_write0 rfl (fun s => .op rfl (.op rfl (.nil))) rfl rfl (fun s hs => loc_store1 rfl rfl rfl) (by exact .cons (.inl rfl) (.cons (.inl rfl) (.nil))) ?_
  refine dq_end (rs := [_, _, _, _]) ((.bool true), (.bool true)) rfl (fun _ => rfl) (.cons rfl (.cons rfl (.nil))) rfl (fun _ => rfl) (fun s9 _ => ?_)
  obtain ⟨v3, v4⟩ := s9
  dsimp only [outG, outM, List.map, List.set, id]
  refine run_seq ?_
  refine run_seq ?_
  refine run_region ?_
  refine run_op (loc_fieldAddrOwn rfl) rfl ?_
  first | refine run_op (LocP.upV (loc_loadOwn1 rfl (.there (.there (.there (.here)))) (by rfl))) rfl ?_ | refine run_op (loc_loadOwn1 rfl (.there (.there (.there (.here)))) (by rfl)) rfl ?_
  refine run_op (loc_lenRow rfl (.there (.here))) rfl ?_
  refine run_op (loc_move rfl) rfl ?_
  refine run_nil ?_
  refine run_block ?_
  refine run_front (.there (.here)) ?_
  refine run_loopF (σ := Nat) (ks := [1, 2, 16, 17]) (.cons rfl (.cons rfl (.cons rfl (.cons rfl (.nil))))) (fun k => [(18, dInt .i64 (k : Nat))]) (fun k => [rRow v3 89 6 cHeld v.versions]) (fun k => k ≤ v.versions.length) (fun k => v.versions.length - k) (0) (Nat.zero_le _) (.cons rfl (by first | exact fun _ _ h => h | exact d_int (by omega) | exact d_int (by simp) | exact d_intN (by omega) | exact d_any) .nil) (rfl) ?_
  intro k hk ih5
  refine run_seq ?_
  refine run_region ?_
  refine run_op (loc_lss rfl rfl) rfl ?_
  refine run_nil ?_
  refine run_seq ?_
  refine run_cond rfl (fun h6 => ?_) (fun h6 => ?_)
  ·
    have hrk := hv3 _ (getD_mem (xs := v.versions) (k := k) (by omega))
    refine run_openRow (.here) (by intro he; have h0 := congrArg List.length he; rw [List.length_nil] at h0; omega) (fun bh cbh hvbh hcbh hmbh hlbh hfbh => ?_)
    subst hvbh
    refine run_skip ?_
    refine run_seq ?_
    refine run_block ?_
    refine run_seq ?_
    refine run_region ?_
    refine run_op (loc_move rfl) rfl ?_
    refine run_op (loc_indexOwn rfl rfl (by first | omega | assumption | (simp; done))) rfl ?_
    refine run_op (loc_loadBufN rfl (.here) (by first | exact els_get (i := k) (by omega) (by omega) | rfl)) rfl ?_
    refine run_new (loc_allocOwn (by simp)) rfl (fun b7 _ => ?_)
    refine run_op (loc_assign rfl) rfl ?_
    refine run_storeN (ho := (by show OneAll [_, _, _, _, _, _]; infer_instance)) rfl rfl (.here) (by rfl) ?_
    refine run_nil ?_
    refine dr_start _ (.none) [⟨[(1, none)], [], none⟩,
        ⟨[(23, some (0, false))], [0], some (4, 0, false)⟩,
        ⟨[(3, none)], [], none⟩,
        ⟨[(4, none)], [], none⟩,
        ⟨[(26, some (3, false))], [3], some (0, 0, false)⟩,
        ⟨[(27, some (4, false))], [3, 4], none⟩,
        ⟨[(24, some (1, false)), (25, some (2, false))], [0, 1, 2, 3, 4, 5], none⟩,
        ⟨[(29, some (6, false))], [0, 1, 2, 3, 4, 5, 6], none⟩,
        ⟨[(30, some (7, false)), (28, some (5, false))], [0, 1, 2, 3, 4, 5, 6, 7], some (1, 0, true)⟩] [_, _, _, _, _] _ rfl rfl ?_
    refine dq_pure rfl (fun s => .g rfl (.nil)) (fun s hs _ => loc_fieldAddrOwn rfl) (by exact .nil) ?_
    first | refine dq_read rfl (fun s => .op rfl (.nil)) rfl rfl (fun s hs _ hm => LocP.upV (loc_loadOwn1 rfl hm (by rfl))) (by exact .nil) ?_ | refine dq_read rfl (fun s => .op rfl (.nil)) rfl rfl (fun s hs _ hm => loc_loadOwn1 rfl hm (by rfl)) (by exact .nil) ?_
    refine dq_pure rfl (fun s => .g rfl (.nil)) (fun s hs _ => loc_move rfl) (by exact .nil) ?_
    refine dq_pure rfl (fun s => .g rfl (.nil)) (fun s hs _ => loc_fieldAddrOwn rfl) (by exact .nil) ?_
    refine dq_read rfl (fun s => .op rfl (.nil)) rfl rfl (fun s hs _ hm => loc_loadOwn1 rfl hm (by rfl)) (by exact .nil) ?_
    refine dq_pure rfl (fun s => .op rfl (.nil)) (fun s hs _ => loc_call (ownRows_spec _ hrk) rfl) (by exact .nil) ?_
    refine dq_pure rfl (fun s => .op rfl (.op rfl (.nil))) (fun s hs _ => loc_indexOwn rfl rfl (by first | omega | assumption | (simp; done))) (by exact .nil) ?_
    refine dq_pure rfl (fun s => .op rfl (.nil)) (fun s hs _ => loc_fieldAddrOwn rfl) (by exact .nil) ?_
    refine dq_write0 rfl (fun s => .op rfl (.op rfl (.nil))) rfl rfl (fun s hs => loc_storeBufF rfl rfl (by first | exact els_get (i := k) (by omega) (by omega) | rfl) (by decide)) (by exact .nil) ?_
    refine dq_end (rs := [_, _, _, _, _]) () rfl (fun _ => rfl) (.nil) rfl (fun _ => rfl) (fun _ _ => ?_)
    dsimp only [outG, outM, List.map, List.set, id]
    refine run_shutRow (f' := cHeld) (xs := v.versions) (.there (.here)) (els_same (i := k) (by omega) (by omega) (by rfl)) rfl (by simp [junk_length]; omega) hmbh hlbh ?_
    refine run_inBlock ?_
    refine run_region ?_
    first | refine run_op (loc_add rfl rfl (by first | omega | assumption | (simp; done))) rfl ?_ | refine run_op (loc_addW rfl rfl) rfl ?_
    refine run_op (loc_move rfl) rfl ?_
    refine run_nil ?_
    refine run_drop (.cons _ (.refl _)) ?_
    exact run_againF ih5 (k + 1) (by omega) (by omega) (.cons rfl (by first | exact fun _ _ h => h | exact d_int (by omega) | exact d_int (by simp) | exact d_intN (by omega) | exact d_any) .nil) (.cons rfl (fun _ _ x => x) (.cons rfl (fun _ _ x => x) (.cons rfl (fun _ _ x => x) (.cons rfl (fun _ _ x => x) (.nil))))) (rfl)
  ·
    refine run_exit rfl ?_
    refine run_seq ?_
    refine run_seq ?_
    first | refine run_freezeRowCellV (kk := 6) (.here) (.there (.there (.here))) rfl ?_ | refine run_freezeRowCell (kk := 6) (.here) (.there (.there (.here))) rfl ?_
    refine run_region ?_
    refine run_op (loc_fieldAddrOwn rfl) rfl ?_
    first | refine run_op (LocP.upV (loc_loadOwn1 rfl (.there (.there (.here))) (by rfl))) rfl ?_ | refine run_op (loc_loadOwn1 rfl (.there (.there (.here))) (by rfl)) rfl ?_
    refine run_op (loc_lenRow rfl (.here)) rfl ?_
    refine run_op (loc_move rfl) rfl ?_
    refine run_nil ?_
    rw [hj]
    refine run_block ?_
    refine run_addNone ?_
    refine run_front (.there (.here)) ?_
    refine run_weaken (fun _ _ _ hs hi => ⟨hs, row_ids hi⟩) ?_
    refine run_loopF (σ := Nat × Value) (ks := [1, 2, 33, 34]) (.cons rfl (.cons rfl (.cons rfl (.cons rfl (.nil))))) (fun q => [(35, dInt .i64 (q.1 : Nat))]) (fun q => [rRow v4 93 5 (fun l : List D => l) [if q.1 = 0 then cJob j else cJobV j q.2], if q.1 = 0 then rNone else rRow q.2 3 1 fI j.got]) (fun q => q.1 ≤ 1) (fun q => 1 - q.1) ((0, .bool true)) (by omega) (.cons rfl (by first | exact fun _ _ h => h | exact d_int (by omega) | exact d_int (by simp) | exact d_intN (by omega) | exact d_any) .nil) (rfl) ?_
    rintro ⟨k, u⟩ hk ih8
    refine run_seq ?_
    refine run_region ?_
    refine run_op (loc_lss rfl rfl) rfl ?_
    refine run_nil ?_
    refine run_seq ?_
    refine run_cond rfl (fun h9 => ?_) (fun h9 => ?_)
    ·
      obtain rfl : k = 0 := by have h9 := h9; simp only [List.length_cons, List.length_nil] at h9; omega
      simp only [↓reduceIte]
      refine run_openRow (.here) (by simp) (fun bj cbj hvbj hcbj hmbj hlbj hfbj => ?_)
      subst hvbj
      refine run_skip ?_
      refine run_seq ?_
      refine run_block ?_
      refine run_seq ?_
      refine run_region ?_
      refine run_op (loc_move rfl) rfl ?_
      refine run_op (loc_indexOwn rfl rfl (by first | omega | assumption | (simp; done))) rfl ?_
      refine run_op (loc_loadBufN rfl (.here) (by first | exact els_get (i := k) (by omega) (by omega) | rfl)) rfl ?_
      refine run_new (loc_allocOwn (by simp)) rfl (fun b10 _ => ?_)
      refine run_op (loc_assign rfl) rfl ?_
      refine run_storeN (ho := (by show OneAll [_, _, _, _, _]; infer_instance)) rfl rfl (.here) (by rfl) ?_
      refine run_nil ?_
      refine dr_start _ (.one (σ := Value) 4 (fun _ => True)) [⟨[(1, none)], [], none⟩,
          ⟨[(40, some (0, false))], [0], some (4, 0, false)⟩,
          ⟨[(5, none)], [], none⟩,
          ⟨[(6, none)], [], some (0, 0, false)⟩,
          ⟨[(43, some (3, false))], [3], some (2, 0, true)⟩,
          ⟨[(41, some (1, false)), (42, some (2, false))], [0, 1, 2, 3, 4], none⟩,
          ⟨[(45, some (5, false)), (44, some (4, false))], [0, 1, 2, 3, 4, 5], some (1, 0, true)⟩] [_, _, _, _, _] _ rfl rfl ?_
      refine dq_pure rfl (fun s => .g rfl (.nil)) (fun s hs _ => loc_fieldAddrOwn rfl) (by exact .cons (.inr fun _ _ _ => rfl) (.nil)) ?_
      first | refine dq_read rfl (fun s => .op rfl (.nil)) rfl rfl (fun s hs _ hm => LocP.upV (loc_loadOwn1 rfl hm (by rfl))) (by exact .cons (.inr fun _ _ _ => rfl) (.nil)) ?_ | refine dq_read rfl (fun s => .op rfl (.nil)) rfl rfl (fun s hs _ hm => loc_loadOwn1 rfl hm (by rfl)) (by exact .cons (.inr fun _ _ _ => rfl) (.nil)) ?_
      refine dq_pure rfl (fun s => .g rfl (.nil)) (fun s hs _ => loc_move rfl) (by exact .cons (.inr fun _ _ _ => rfl) (.nil)) ?_
      refine dq_read rfl (fun s => .g rfl (.nil)) rfl rfl (fun s hs _ hm => loc_loadOwnN rfl hm (by rfl)) (by exact .cons (.inr fun _ _ _ => rfl) (.nil)) ?_
      refine dq_choose id (fun _ t => t) rfl (fun _ _ => ⟨rfl, id, trivial⟩) (fun s => .op rfl (.nil)) rfl rfl (fun s hs => locM_new (loc_callM (ownJobM_spec j hjz) rfl)) (by exact .cons (.inl rfl) (.nil)) (fun _ _ => rfl) ?_
      refine dq_pure rfl (fun s => .op rfl (.op rfl (.nil))) (fun s hs _ => loc_indexOwn rfl rfl (by first | omega | assumption | (simp; done))) (by exact .cons (.inl rfl) (.nil)) ?_
      refine dq_write0 rfl (fun s => .op rfl (.op rfl (.nil))) rfl rfl (fun s hs => loc_storeBufN (ho := (by show OneAll [_, _, _, _, _]; infer_instance)) rfl rfl (by first | omega | (simp [junk_length]; done) | (simp only [List.length_append, List.length_map, junk_length]; omega)) rfl) (by exact .cons (.inl rfl) (.nil)) ?_
      refine dq_end (rs := [_, _, _, _, _]) (.bool true) rfl (fun _ => rfl) (.cons rfl (.nil)) rfl (fun _ => rfl) (fun vu _ => ?_)
      dsimp only [outG, outM, List.map, List.set, id]
      refine run_shutRow (f' := fun l : List D => l) (xs := [cJobV j vu]) (.there (.here)) (by rfl) rfl (by have h5 := hcbj; simp only [List.length_cons, List.length_nil, junk_length] at h5 ⊢; omega) hmbj hlbj ?_
      refine run_inBlock ?_
      refine run_region ?_
      first | refine run_op (loc_add rfl rfl (by first | omega | assumption | (simp; done))) rfl ?_ | refine run_op (loc_addW rfl rfl) rfl ?_
      refine run_op (loc_move rfl) rfl ?_
      refine run_nil ?_
      refine run_drop (.cons _ (.refl _)) ?_
      exact run_againF ih8 ((1, vu)) (by omega) (by omega) (.cons rfl (by first | exact fun _ _ h => h | exact d_int (by omega) | exact d_int (by simp) | exact d_intN (by omega) | exact d_any) .nil) (.cons rfl (fun _ _ x => x) (.cons rfl (fun _ _ x => x) (.cons rfl (fun _ _ x => x) (.cons rfl (fun _ _ x => x) (.nil))))) (rfl)
    ·
      refine run_exit rfl ?_
      refine run_seq ?_
      obtain rfl : k = 1 := by simp only at *; omega
      simp only [Nat.one_ne_zero, ↓reduceIte]
      skip
      refine run_region ?_
      refine run_op (loc_loadOwnN rfl (.there (.there (.there (.here)))) (by rfl)) rfl ?_
      refine run_storeN (ho := (by show OneAll [_, _, _, _, _, _, _, _]; infer_instance)) rfl rfl (.there (.there (.here))) (by rfl) ?_
      refine run_nil ?_
      refine run_retG ((v4, u)) Tryz.func42 rfl (.cellN rfl (by first | exact .here | exact .there .here | exact .there (.there .here) | exact .there (.there (.there .here)) | exact .there (.there (.there (.there .here))) | exact .there (.there (.there (.there (.there .here))))) (by rfl) (.nil)) ?_ (trivial) (fun _ _ h => h.sub (.cons_cons _ (.cons_cons _ (.cons _ (.cons _ (.refl _))))))
      exact fun _ _ h => h

theorem word1_plain {v : Srv} {j : Job} {lie : Int} (hj : v.jobs = [j]) : job1 v lie = (⟨j.read, j.probe, j.version, j.query, j.got ++ [(wordQ (heldV v j.version) j.query j.got.length lie)]⟩ : Job) ∧ note1 v lie = (⟨2, j.read, j.probe, v.id, j.version, j.query, j.got ++ [(wordQ (heldV v j.version) j.query j.got.length lie)], 0⟩ : Nte) ∧ (moreV v lie ↔ ((j.got ++ [(wordQ (heldV v j.version) j.query j.got.length lie)]).length : Int) < (heldV v j.version).head.width) := by
  have e0 : v.jobs[0]?.getD default = j := by rw [hj]; rfl
  have e1 : job1 v lie = (⟨j.read, j.probe, j.version, j.query, j.got ++ [(wordQ (heldV v j.version) j.query j.got.length lie)]⟩ : Job) := by unfold job1; rw [e0]; rfl
  refine ⟨e1, by unfold note1; rw [e1], ?_⟩
  unfold moreV; rw [e1, e0]
theorem vword1_spec (v : Srv) (p : Psn) (lie : Int) (hok : okSrv v) (hsz : szSrv v) (hup : v.up) (j : Job) (hj : v.jobs = [j]) : SpecP Tryz.prog 13 [dSrv v, dPsn p, dInt .i64 lie] (dTup [dSrv (wordV v p lie), dNte (wordN v p lie), dB (wordR v p lie), dInt .i64 (wordE v p lie)]) := by
  have hpl := word1_plain (lie := lie) hj
  have hjl : v.jobs.length = 1 := by rw [hj]; rfl
  have hjo := hok.2.2.2.2 j (by rw [hj]; exact List.mem_singleton_self _)
  have hat := hjo.1.1
  have hhm : okHeld (heldV v j.version) := hok.2.2.1 _ (getD_mem hat)
  have hjk : okHeld (heldV v j.version) ∧ j.query.length = (heldV v j.version).rows.length ∧ allP (heldV v j.version).head.p j.query ∧ (j.got.length : Int) < (heldV v j.version).head.width := ⟨hhm, hjo.2.1, hjo.2.2.1, hjo.2.2.2.1⟩
  have hwd := hhm.2.1
  have hrl := hhm.2.2.1
  have hgl : (j.got ++ [(wordQ (heldV v j.version) j.query j.got.length lie)]).length = j.got.length + 1 := by simp
  have hnz : ((⟨2, j.read, j.probe, v.id, j.version, j.query, j.got ++ [(wordQ (heldV v j.version) j.query j.got.length lie)], 0⟩ : Nte)).query.length ≤ 100000 ∧ ((⟨2, j.read, j.probe, v.id, j.version, j.query, j.got ++ [(wordQ (heldV v j.version) j.query j.got.length lie)], 0⟩ : Nte)).values.length ≤ 100000 := ⟨by show j.query.length ≤ 100000; have := hjo.2.1; omega, by show (j.got ++ [(wordQ (heldV v j.version) j.query j.got.length lie)]).length ≤ 100000; omega⟩
  have hnn : ¬ (¬ v.up ∨ v.jobs.length = 0) := by rintro (h | h); (· exact h hup); (· omega)
  refine specP_of_body Tryz.func13 rfl rfl (fun I M => ?_)
  refine run_seq ?_
  refine run_region ?_
  refine run_op (loc_boxN rfl) rfl ?_
  refine run_op (loc_boxN rfl) rfl ?_
  refine run_new (loc_allocOwn (by simp)) rfl (fun b1 _ => ?_)
  refine run_new (loc_allocOwn (by simp)) rfl (fun b2 _ => ?_)
  refine run_op (loc_assign rfl) rfl ?_
  refine run_op (loc_assign rfl) rfl ?_
  refine run_nil ?_
  refine run_seq ?_
  refine run_block ?_
  refine run_seq ?_
  refine run_region ?_
  refine run_op (loc_fieldAddr rfl) rfl ?_
  refine run_op (loc_load1 rfl) rfl ?_
  refine run_op (loc_not rfl) rfl ?_
  refine run_op (loc_assign rfl) rfl ?_
  refine run_nil ?_
  refine run_cond rfl (fun h3 => ?_) (fun h3 => ?_)
  · exfalso; exact h3 hup
  ·
    refine run_seq ?_
    refine run_region ?_
    refine run_op (loc_fieldAddr rfl) rfl ?_
    refine run_op (loc_load1 rfl) rfl ?_
    first | refine runL_fact (s := 27) rfl (fun _ _ h => dSl_len h) (fun hlen4 => ?_) | skip
    refine run_op (loc_len rfl) rfl ?_
    refine run_op (loc_eql rfl rfl) rfl ?_
    refine run_op (loc_assign rfl) rfl ?_
    refine run_nil ?_
    refine run_cond rfl (fun h5 => ?_) (fun h5 => ?_)
    · exfalso; omega
    ·
      refine run_skip ?_
      refine run_inBlock ?_
      refine run_seq ?_
      refine run_region ?_
      refine run_op (loc_loadN rfl rfl) rfl ?_
      refine run_callN2 rfl (ownW_spec v hsz j hj) rfl (fun vw vu => ?_)
      dsimp only
      refine run_new (loc_allocOwn (by simp)) rfl (fun b6 _ => ?_)
      refine run_storeN (ho := (by show OneAll [_, _, _, _, _, _, _, _]; infer_instance)) rfl rfl (.here) (by rfl) ?_
      refine run_nil ?_
      refine run_seq ?_
      refine run_rowLen (.there (.there (.here))) (fun ad cap hu => ?_)
      subst hu
      refine run_openRow (.there (.here)) (by simp) (fun bw cbw hvbw hcbw hmbw hlbw hfbw => ?_)
      subst hvbw
      refine run_region ?_
      refine run_op (loc_fieldAddrOwn rfl) rfl ?_
      first | refine run_op (LocP.upV (loc_loadOwn1 rfl (.here) (by rfl))) rfl ?_ | refine run_op (loc_loadOwn1 rfl (.here) (by rfl)) rfl ?_
      refine run_op (loc_indexOwn rfl rfl (by first | omega | assumption | (simp; done))) rfl ?_
      refine run_op (loc_assign rfl) rfl ?_
      refine run_nil ?_
      refine run_seq ?_
      refine dr_start _ (.none) [⟨[(3, none)], [], none⟩,
          ⟨[(11, none)], [], none⟩,
          ⟨[(40, some (1, false))], [1], none⟩,
          ⟨[(41, some (2, false))], [1, 2], none⟩,
          ⟨[(42, some (3, false))], [1, 2, 3], some (1, 0, false)⟩,
          ⟨[(39, some (0, false)), (43, some (4, false))], [0, 1, 2, 3, 4], none⟩,
          ⟨[(44, some (5, false))], [0, 1, 2, 3, 4, 5], none⟩,
          ⟨[(38, some (6, false))], [0, 1, 2, 3, 4, 5, 6], none⟩,
          ⟨[(38, some (6, false))], [0, 1, 2, 3, 4, 5, 6], none⟩,
          ⟨[(45, some (7, false))], [0, 1, 2, 3, 4, 5, 6, 7], none⟩,
          ⟨[(46, some (8, false))], [0, 1, 2, 3, 4, 5, 6, 7, 8, 9], none⟩] [_, _, _, _, _] _ rfl rfl ?_
      refine dq_pure rfl (fun s => .g rfl (.nil)) (fun s hs _ => loc_loadN rfl rfl) (by exact .nil) ?_
      refine dq_pure rfl (fun s => .g rfl (.nil)) (fun s hs _ => loc_move rfl) (by exact .nil) ?_
      refine dq_pure rfl (fun s => .op rfl (.nil)) (fun s hs _ => loc_nilCheckOwn rfl) (by exact .nil) ?_
      refine dq_pure rfl (fun s => .op rfl (.nil)) (fun s hs _ => loc_fieldAddrOwn rfl) (by exact .nil) ?_
      refine dq_read rfl (fun s => .op rfl (.nil)) rfl rfl (fun s hs _ hm => loc_loadBufF rfl hm (by rfl) rfl) (by exact .nil) ?_
      refine dq_pure rfl (fun s => .op rfl (.op rfl (.nil))) (fun s hs _ => loc_call (vfind_spec _ _) rfl) (by exact .nil) ?_
      refine dq_pure rfl (fun s => .op rfl (.nil)) (fun s hs _ => loc_move rfl) (by exact .nil) ?_
      refine dq_pure rfl (fun s => .op rfl (.nil)) (fun s hs _ => loc_extract rfl rfl) (by exact .nil) ?_
      refine dq_pure rfl (fun s => .op rfl (.nil)) (fun s hs _ => loc_extract rfl rfl) (by exact .nil) ?_
      refine dq_pure rfl (fun s => .op rfl (.nil)) (fun s hs _ => loc_assign rfl) (by exact .nil) ?_
      refine dq_pure rfl (fun s => .op rfl (.nil)) (fun s hs _ => loc_assign rfl) (by exact .nil) ?_
      refine dq_end (rs := [_, _, _, _, _]) () rfl (fun _ => rfl) (.nil) rfl (fun _ => rfl) (fun _ _ => ?_)
      dsimp only [outG, outM, List.map, List.set, id]
      refine run_seq ?_
      refine run_region ?_
      refine run_op (loc_fieldAddr rfl) rfl ?_
      refine run_op (loc_load1 rfl) rfl ?_
      refine run_op (loc_move rfl) rfl ?_
      first | refine run_op (loc_index rfl rfl (by first | omega | assumption | (simp; done))) rfl ?_ | refine run_op (loc_indexI rfl rfl (by first | omega | assumption | (simp; done))) rfl ?_
      refine run_op (loc_loadN rfl rfl) rfl ?_
      refine run_new (loc_allocOwn (by simp)) rfl (fun b7 _ => ?_)
      refine run_storeN (ho := (by show OneAll [_, _, _, _, _, _]; infer_instance)) rfl rfl (.here) (by rfl) ?_
      refine run_nil ?_
      refine run_seq ?_
      refine dr_start _ (.one (σ := Value) 12 (fun _ => True)) [⟨[(11, none)], [], none⟩,
          ⟨[(11, none)], [], none⟩,
          ⟨[(53, some (1, false))], [1], none⟩,
          ⟨[(54, some (2, false))], [1, 2], none⟩,
          ⟨[(55, some (3, false))], [1, 2, 3], some (2, 0, false)⟩,
          ⟨[(14, none)], [], some (0, 0, false)⟩,
          ⟨[(11, none)], [], none⟩,
          ⟨[(58, some (6, false))], [6], none⟩,
          ⟨[(59, some (7, false))], [6, 7], some (2, 0, false)⟩,
          ⟨[(2, none)], [], none⟩,
          ⟨[(57, some (5, false)), (60, some (8, false)), (61, some (9, false))], [5, 6, 7, 8, 9], none⟩,
          ⟨[(62, some (10, false))], [5, 6, 7, 8, 9, 10], none⟩,
          ⟨[(56, some (4, false)), (63, some (11, false))], [1, 2, 3, 4, 5, 6, 7, 8, 9, 10, 11], some (3, 0, true)⟩,
          ⟨[(52, some (0, false))], [0, 1, 2, 3, 4, 5, 6, 7, 8, 9, 10, 11, 12], none⟩,
          ⟨[(65, some (13, false))], [0, 1, 2, 3, 4, 5, 6, 7, 8, 9, 10, 11, 12, 13], none⟩,
          ⟨[(66, some (14, false)), (64, some (12, false))], [0, 1, 2, 3, 4, 5, 6, 7, 8, 9, 10, 11, 12, 13, 14], some (2, 0, true)⟩] [_, _, _, _, _, _] _ rfl rfl ?_
      refine dq_pure rfl (fun s => .g rfl (.nil)) (fun s hs _ => loc_move rfl) (by exact .cons (.inr fun _ _ _ => rfl) (.nil)) ?_
      refine dq_pure rfl (fun s => .g rfl (.nil)) (fun s hs _ => loc_move rfl) (by exact .cons (.inr fun _ _ _ => rfl) (.nil)) ?_
      refine dq_pure rfl (fun s => .op rfl (.nil)) (fun s hs _ => loc_nilCheckOwn rfl) (by exact .cons (.inr fun _ _ _ => rfl) (.nil)) ?_
      refine dq_pure rfl (fun s => .op rfl (.nil)) (fun s hs _ => loc_fieldAddrOwn rfl) (by exact .cons (.inr fun _ _ _ => rfl) (.nil)) ?_
      refine dq_read rfl (fun s => .op rfl (.nil)) rfl rfl (fun s hs _ hm => LocP.upV (loc_loadBufF rfl hm (by rfl) rfl)) (by exact .cons (.inr fun _ _ _ => rfl) (.nil)) ?_
      refine dq_read rfl (fun s => .g rfl (.nil)) rfl rfl (fun s hs _ hm => loc_loadOwnN rfl hm (by rfl)) (by exact .cons (.inr fun _ _ _ => rfl) (.nil)) ?_
      refine dq_pure rfl (fun s => .g rfl (.nil)) (fun s hs _ => loc_move rfl) (by exact .cons (.inr fun _ _ _ => rfl) (.nil)) ?_
      refine dq_pure rfl (fun s => .op rfl (.nil)) (fun s hs _ => loc_nilCheckOwn rfl) (by exact .cons (.inr fun _ _ _ => rfl) (.nil)) ?_
      refine dq_read rfl (fun s => .op rfl (.nil)) rfl rfl (fun s hs _ hm => loc_loadBufN rfl hm (by rfl)) (by exact .cons (.inr fun _ _ _ => rfl) (.nil)) ?_
      refine dq_pure rfl (fun s => .g rfl (.nil)) (fun s hs _ => loc_move rfl) (by exact .cons (.inr fun _ _ _ => rfl) (.nil)) ?_
      refine dq_pure rfl (fun s => .op rfl (.op rfl (.op rfl (.nil)))) (fun s hs _ => loc_call (sword_spec (heldV v j.version) _ _ _ _ _ _ _ _ hjk.1 hjk.2.1 hjk.2.2.2 hjk.2.2.1) rfl) (by exact .cons (.inr fun _ _ _ => rfl) (.nil)) ?_
      refine dq_pure rfl (fun s => .op rfl (.nil)) (fun s hs _ => loc_buildSlice rfl rfl (.one rfl (.nil)) rfl rfl) (by exact .cons (.inr fun _ _ _ => rfl) (.nil)) ?_
      refine dq_choose id (fun _ t => t) rfl (fun _ _ => ⟨rfl, id, trivial⟩) (fun s => .op rfl (.op rfl (.nil))) rfl rfl (fun s hs => LocM.rowV (loc_append1 _ rfl rfl rfl rfl (by first | omega | (unfold lenMax; omega) | assumption | (simp; omega) | (simp [lenMax]; omega)) (by first | omega | (unfold lenMax; omega) | assumption | (simp; omega) | (simp [lenMax]; omega)))) (by exact .cons (.inl rfl) (.nil)) (fun _ _ => rfl) ?_
      refine dq_pure rfl (fun s => .op rfl (.nil)) (fun s hs _ => loc_nilCheckOwn rfl) (by exact .cons (.inl rfl) (.nil)) ?_
      refine dq_pure rfl (fun s => .op rfl (.nil)) (fun s hs _ => loc_fieldAddrOwn rfl) (by exact .cons (.inl rfl) (.nil)) ?_
      refine dq_write0 rfl (fun s => .op rfl (.op rfl (.nil))) rfl rfl (fun s hs => loc_storeBufF rfl rfl (by rfl) (by decide)) (by exact .cons (.inl rfl) (.nil)) ?_
      refine dq_end (rs := [_, _, _, _, _, _]) (.bool true) rfl (fun _ => rfl) (.cons rfl (.nil)) rfl (fun _ => rfl) (fun v8 _ => ?_)
      dsimp only [outG, outM, List.map, List.set, id]
      refine run_seq ?_
      refine run_seq ?_
      refine dr_start _ (.none) [⟨[(11, none)], [], none⟩,
          ⟨[(67, some (0, false))], [0], none⟩,
          ⟨[(68, some (1, false))], [0, 1], none⟩,
          ⟨[(69, some (2, false))], [0, 1, 2], some (2, 0, false)⟩,
          ⟨[(70, some (3, false))], [0, 1, 2, 3], some (3, 0, false)⟩,
          ⟨[(14, none)], [], none⟩,
          ⟨[(72, some (5, false))], [5], none⟩,
          ⟨[(73, some (6, false))], [5, 6], some (0, 0, false)⟩,
          ⟨[(71, some (4, false)), (74, some (7, false))], [0, 1, 2, 3, 4, 5, 6, 7], none⟩] [_, _, _, _, _, _] _ rfl rfl ?_
      refine dq_pure rfl (fun s => .g rfl (.nil)) (fun s hs _ => loc_move rfl) (by exact .nil) ?_
      refine dq_pure rfl (fun s => .op rfl (.nil)) (fun s hs _ => loc_nilCheckOwn rfl) (by exact .nil) ?_
      refine dq_pure rfl (fun s => .op rfl (.nil)) (fun s hs _ => loc_fieldAddrOwn rfl) (by exact .nil) ?_
      refine dq_read rfl (fun s => .op rfl (.nil)) rfl rfl (fun s hs _ hm => LocP.upV (loc_loadBufF rfl hm (by rfl) rfl)) (by exact .nil) ?_
      refine dq_read rfl (fun s => .op rfl (.nil)) rfl rfl (fun s hs _ hm => loc_lenRow rfl hm) (by exact .nil) ?_
      refine dq_pure rfl (fun s => .g rfl (.nil)) (fun s hs _ => loc_fieldAddrOwn rfl) (by exact .nil) ?_
      refine dq_pure rfl (fun s => .op rfl (.nil)) (fun s hs _ => loc_fieldAddrOwn rfl) (by exact .nil) ?_
      refine dq_read rfl (fun s => .op rfl (.nil)) rfl rfl (fun s hs _ hm => loc_loadOwn1 rfl hm (by rfl)) (by exact .nil) ?_
      refine dq_pure rfl (fun s => .op rfl (.op rfl (.nil))) (fun s hs _ => loc_lss rfl rfl) (by exact .nil) ?_
      refine dq_end (rs := [_, _, _, _, _, _]) () rfl (fun _ => rfl) (.nil) rfl (fun _ => rfl) (fun _ _ => ?_)
      dsimp only [outG, outM, List.map, List.set, id]
      refine run_cond rfl (fun h9 => ?_) (fun h9 => ?_)
      ·
        have c3 := h9
        refine run_seq ?_
        refine run_freezeRowBuf (q := 0) (o := 4) (.there (.there (.there (.here)))) (.there (.there (.here))) rfl rfl ?_
        refine run_shutRow (f' := cJob) (xs := [(⟨j.read, j.probe, j.version, j.query, j.got ++ [(wordQ (heldV v j.version) j.query j.got.length lie)]⟩ : Job)]) (.there (.there (.here))) (by rfl) rfl (by have h5 := hcbw; simp only [List.length_cons, List.length_nil, junk_length] at h5 ⊢; omega) hmbw hlbw ?_
        first | refine run_freezeRowCellV (kk := 7) (.there (.there (.here))) (.there (.here)) rfl ?_ | refine run_freezeRowCell (kk := 7) (.there (.there (.here))) (.there (.here)) rfl ?_
        refine run_region ?_
        refine run_op (loc_loadOwnN rfl (.there (.here)) (by rfl)) rfl ?_
        refine run_op (loc_build (.nil)) rfl ?_
        refine run_storeN (ho := (by show OneAll [_, _, _, _, _, _, _, _]; infer_instance)) rfl rfl (.there (.there (.there (.here)))) (by rfl) ?_
        refine run_storeN (ho := (by show OneAll [_, _, _, _, _, _, _, _]; infer_instance)) rfl rfl (.there (.there (.here))) (by rfl) ?_
        refine run_op (loc_assign rfl) rfl ?_
        refine run_op (loc_assign rfl) rfl ?_
        refine run_nil ?_
        refine run_retGP Tryz.func13 rfl (.cellN rfl (by first | exact .here | exact .there .here | exact .there (.there .here) | exact .there (.there (.there .here)) | exact .there (.there (.there (.there .here))) | exact .there (.there (.there (.there (.there .here))))) (by rfl) (.cellN rfl (by first | exact .here | exact .there .here | exact .there (.there .here) | exact .there (.there (.there .here)) | exact .there (.there (.there (.there .here))) | exact .there (.there (.there (.there (.there .here))))) (by rfl) (.tmp rfl (.tmp rfl (.nil))))) ?_ (fun _ _ h => inv_tail (inv_tail (inv_tail (inv_tail (h)))))
        exact d_tup4 (d_toSrv (t' := { v with jobs := [(⟨j.read, j.probe, j.version, j.query, j.got ++ [(wordQ (heldV v j.version) j.query j.got.length lie)]⟩ : Job)] }) (by unfold wordV; rw [if_neg hnn, if_pos (hpl.2.2.2 c3), hpl.1, hj]; rfl) (fun _ _ h => h)) (d_toNte (t' := nte0) (by unfold wordN; rw [if_neg (fun hc => hc.2.2.1 (hpl.2.2.2 c3))]) (d_aggU (.cons (d_int rfl) (.cons (d_int rfl) (.cons (d_int rfl) (.cons (d_int rfl) (.cons (d_int rfl) (.cons d_nil (.cons d_nil (.cons (d_int rfl) .nil)))))))))) (d_B ⟨False.elim, fun hc => hc.2.2.1 (hpl.2.2.2 c3)⟩) (d_int (by unfold wordE; rw [if_neg (Classical.not_not.2 hup), if_neg (by omega), if_pos (hpl.2.2.2 c3)]))
      ·
        have c3 := h9
        refine run_skip ?_
        refine run_seq ?_
        have hmo : ¬ moreV v lie := fun hc => c3 (hpl.2.2.1 hc)
        refine run_freezeRowBuf (q := 0) (o := 4) (.there (.there (.there (.here)))) (.there (.there (.here))) rfl rfl ?_
        refine run_addNone ?_
        refine dr_start _ (.one (σ := Nat) 23 (fun _ => True)) [⟨[(11, none)], [], none⟩,
            ⟨[(78, some (0, false))], [0], none⟩,
            ⟨[(79, some (1, false))], [0, 1], none⟩,
            ⟨[(80, some (2, false))], [0, 1, 2], some (3, 0, false)⟩,
            ⟨[(11, none)], [], none⟩,
            ⟨[(82, some (4, false))], [4], none⟩,
            ⟨[(83, some (5, false))], [4, 5], none⟩,
            ⟨[(84, some (6, false))], [4, 5, 6], some (3, 0, false)⟩,
            ⟨[(3, none)], [], none⟩,
            ⟨[(86, some (8, false))], [8], none⟩,
            ⟨[(11, none)], [], none⟩,
            ⟨[(88, some (10, false))], [10], none⟩,
            ⟨[(89, some (11, false))], [10, 11], none⟩,
            ⟨[(90, some (12, false))], [10, 11, 12], some (3, 0, false)⟩,
            ⟨[(11, none)], [], none⟩,
            ⟨[(92, some (14, false))], [14], none⟩,
            ⟨[(93, some (15, false))], [14, 15], none⟩,
            ⟨[(94, some (16, false))], [14, 15, 16], some (3, 0, false)⟩,
            ⟨[(11, none)], [], none⟩,
            ⟨[(96, some (18, false))], [18], none⟩,
            ⟨[(97, some (19, false))], [18, 19], none⟩,
            ⟨[(98, some (20, false))], [18, 19, 20], some (3, 0, false)⟩,
            ⟨[(81, some (3, false)), (85, some (7, false)), (87, some (9, false)), (91, some (13, false)), (95, some (17, false)), (99, some (21, false))], [0, 1, 2, 3, 4, 5, 6, 7, 8, 9, 10, 11, 12, 13, 14, 15, 16, 17, 18, 19, 20, 21], none⟩,
            ⟨[], [], some (0, 0, true)⟩,
            ⟨[(15, some (23, false)), (100, some (22, false))], [0, 1, 2, 3, 4, 5, 6, 7, 8, 9, 10, 11, 12, 13, 14, 15, 16, 17, 18, 19, 20, 21, 22, 23], some (0, 1, true)⟩] [_, _, _, _, _, _] _ rfl rfl ?_
        refine dq_pure rfl (fun s => .g rfl (.nil)) (fun s hs _ => loc_move rfl) (by exact .cons (.inr fun _ _ _ => rfl) (.nil)) ?_
        refine dq_pure rfl (fun s => .op rfl (.nil)) (fun s hs _ => loc_nilCheckOwn rfl) (by exact .cons (.inr fun _ _ _ => rfl) (.nil)) ?_
        refine dq_pure rfl (fun s => .op rfl (.nil)) (fun s hs _ => loc_fieldAddrOwn rfl) (by exact .cons (.inr fun _ _ _ => rfl) (.nil)) ?_
        refine dq_read rfl (fun s => .op rfl (.nil)) rfl rfl (fun s hs _ hm => loc_loadBufF rfl hm (by rfl) rfl) (by exact .cons (.inr fun _ _ _ => rfl) (.nil)) ?_
        refine dq_pure rfl (fun s => .g rfl (.nil)) (fun s hs _ => loc_move rfl) (by exact .cons (.inr fun _ _ _ => rfl) (.nil)) ?_
        refine dq_pure rfl (fun s => .op rfl (.nil)) (fun s hs _ => loc_nilCheckOwn rfl) (by exact .cons (.inr fun _ _ _ => rfl) (.nil)) ?_
        refine dq_pure rfl (fun s => .op rfl (.nil)) (fun s hs _ => loc_fieldAddrOwn rfl) (by exact .cons (.inr fun _ _ _ => rfl) (.nil)) ?_
        refine dq_read rfl (fun s => .op rfl (.nil)) rfl rfl (fun s hs _ hm => loc_loadBufF rfl hm (by rfl) rfl) (by exact .cons (.inr fun _ _ _ => rfl) (.nil)) ?_
        refine dq_pure rfl (fun s => .g rfl (.nil)) (fun s hs _ => loc_fieldAddr rfl) (by exact .cons (.inr fun _ _ _ => rfl) (.nil)) ?_
        refine dq_pure rfl (fun s => .op rfl (.nil)) (fun s hs _ => loc_load1 rfl) (by exact .cons (.inr fun _ _ _ => rfl) (.nil)) ?_
        refine dq_pure rfl (fun s => .g rfl (.nil)) (fun s hs _ => loc_move rfl) (by exact .cons (.inr fun _ _ _ => rfl) (.nil)) ?_
        refine dq_pure rfl (fun s => .op rfl (.nil)) (fun s hs _ => loc_nilCheckOwn rfl) (by exact .cons (.inr fun _ _ _ => rfl) (.nil)) ?_
        refine dq_pure rfl (fun s => .op rfl (.nil)) (fun s hs _ => loc_fieldAddrOwn rfl) (by exact .cons (.inr fun _ _ _ => rfl) (.nil)) ?_
        refine dq_read rfl (fun s => .op rfl (.nil)) rfl rfl (fun s hs _ hm => loc_loadBufF rfl hm (by rfl) rfl) (by exact .cons (.inr fun _ _ _ => rfl) (.nil)) ?_
        refine dq_pure rfl (fun s => .g rfl (.nil)) (fun s hs _ => loc_move rfl) (by exact .cons (.inr fun _ _ _ => rfl) (.nil)) ?_
        refine dq_pure rfl (fun s => .op rfl (.nil)) (fun s hs _ => loc_nilCheckOwn rfl) (by exact .cons (.inr fun _ _ _ => rfl) (.nil)) ?_
        refine dq_pure rfl (fun s => .op rfl (.nil)) (fun s hs _ => loc_fieldAddrOwn rfl) (by exact .cons (.inr fun _ _ _ => rfl) (.nil)) ?_
        refine dq_read rfl (fun s => .op rfl (.nil)) rfl rfl (fun s hs _ hm => loc_loadBufF rfl hm (by rfl) rfl) (by exact .cons (.inr fun _ _ _ => rfl) (.nil)) ?_
        refine dq_pure rfl (fun s => .g rfl (.nil)) (fun s hs _ => loc_move rfl) (by exact .cons (.inr fun _ _ _ => rfl) (.nil)) ?_
        refine dq_pure rfl (fun s => .op rfl (.nil)) (fun s hs _ => loc_nilCheckOwn rfl) (by exact .cons (.inr fun _ _ _ => rfl) (.nil)) ?_
        refine dq_pure rfl (fun s => .op rfl (.nil)) (fun s hs _ => loc_fieldAddrOwn rfl) (by exact .cons (.inr fun _ _ _ => rfl) (.nil)) ?_
        refine dq_read rfl (fun s => .op rfl (.nil)) rfl rfl (fun s hs _ hm => loc_loadBufF rfl hm (by rfl) rfl) (by exact .cons (.inr fun _ _ _ => rfl) (.nil)) ?_
        refine dq_pure rfl (fun s => .op rfl (.op rfl (.op rfl (.op rfl (.op rfl (.op rfl (.nil))))))) (fun s hs _ => loc_build (.one rfl rfl rfl (.one rfl rfl rfl (.one rfl rfl rfl (.one rfl rfl rfl (.one rfl rfl rfl (.one rfl rfl rfl (.one rfl rfl rfl (.nil))))))))) (by exact .cons (.inr fun _ _ _ => rfl) (.nil)) ?_
        refine dq_choose id (fun _ t => t) rfl (fun _ _ => ⟨rfl, id, trivial⟩) (fun s => .nil) rfl rfl (fun s hs => locM_new (loc_allocOwn (by simp))) (by exact .cons (.inl rfl) (.nil)) (fun _ _ => rfl) ?_
        refine dq_write0 rfl (fun s => .op rfl (.op rfl (.nil))) rfl rfl (fun s hs => loc_storeN (ho := (by show OneAll [_, _, _, _, _, _, _, _]; infer_instance)) rfl rfl rfl) (by exact .cons (.inl rfl) (.nil)) ?_
        refine dq_end (rs := [_, _, _, _, _, _]) 0 rfl (fun _ => rfl) (.cons rfl (.nil)) rfl (fun _ => rfl) (fun b10 _ => ?_)
        dsimp only [outG, outM, List.map, List.set, id]
        refine run_seq ?_
        refine dr_start _ (.none) [⟨[(4, none)], [], none⟩,
            ⟨[(102, some (0, false))], [0], none⟩,
            ⟨[(15, none)], [], some (0, 0, false)⟩,
            ⟨[(104, some (2, false))], [2], none⟩,
            ⟨[(103, some (1, false)), (105, some (3, false))], [0, 1, 2, 3], none⟩,
            ⟨[(106, some (4, false))], [0, 1, 2, 3, 4], none⟩,
            ⟨[(101, some (5, false))], [0, 1, 2, 3, 4, 5], none⟩,
            ⟨[(101, some (5, false))], [0, 1, 2, 3, 4, 5], none⟩,
            ⟨[(107, some (6, false))], [0, 1, 2, 3, 4, 5, 6], none⟩,
            ⟨[(108, some (7, false))], [0, 1, 2, 3, 4, 5, 6, 7, 8], none⟩] [_, _, _, _, _, _] _ rfl rfl ?_
        refine dq_pure rfl (fun s => .g rfl (.nil)) (fun s hs _ => loc_fieldAddr rfl) (by exact .nil) ?_
        refine dq_pure rfl (fun s => .op rfl (.nil)) (fun s hs _ => loc_load1 rfl) (by exact .nil) ?_
        refine dq_read rfl (fun s => .g rfl (.nil)) rfl rfl (fun s hs _ hm => loc_loadOwnN rfl hm (by rfl)) (by exact .nil) ?_
        refine dq_pure rfl (fun s => .op rfl (.nil)) (fun s hs _ => loc_call (numbers_spec (⟨2, j.read, j.probe, v.id, j.version, j.query, j.got ++ [(wordQ (heldV v j.version) j.query j.got.length lie)], 0⟩ : Nte) hnz) rfl) (by exact .nil) ?_
        refine dq_pure rfl (fun s => .op rfl (.op rfl (.nil))) (fun s hs _ => loc_call (sign_spec _ _) rfl) (by exact .nil) ?_
        refine dq_pure rfl (fun s => .op rfl (.nil)) (fun s hs _ => loc_move rfl) (by exact .nil) ?_
        refine dq_pure rfl (fun s => .op rfl (.nil)) (fun s hs _ => loc_extract rfl rfl) (by exact .nil) ?_
        refine dq_pure rfl (fun s => .op rfl (.nil)) (fun s hs _ => loc_extract rfl rfl) (by exact .nil) ?_
        refine dq_pure rfl (fun s => .op rfl (.nil)) (fun s hs _ => loc_assign rfl) (by exact .nil) ?_
        refine dq_pure rfl (fun s => .op rfl (.nil)) (fun s hs _ => loc_assign rfl) (by exact .nil) ?_
        refine dq_end (rs := [_, _, _, _, _, _]) () rfl (fun _ => rfl) (.nil) rfl (fun _ => rfl) (fun _ _ => ?_)
        dsimp only [outG, outM, List.map, List.set, id]
        refine run_seq ?_
        refine run_seq ?_
        refine run_region ?_
        refine run_op (loc_move rfl) rfl ?_
        refine run_op (loc_neq rfl rfl) rfl ?_
        refine run_nil ?_
        refine run_cond rfl (fun h11 => ?_) (fun h11 => ?_)
        ·
          have c4 := h11
          refine run_seq ?_
          refine run_region ?_
          refine run_op (loc_loadN rfl rfl) rfl ?_
          refine run_op (loc_call (ownP_spec v hsz) rfl) rfl ?_
          refine run_op (loc_build (.nil)) rfl ?_
          refine run_op (loc_move rfl) rfl ?_
          refine run_storeN (ho := (by show OneAll [_, _, _, _, _, _, _, _]; infer_instance)) rfl rfl (.there (.there (.there (.there (.there (.here)))))) (by rfl) ?_
          refine run_storeN (ho := (by show OneAll [_, _, _, _, _, _, _, _]; infer_instance)) rfl rfl (.there (.there (.there (.there (.here))))) (by rfl) ?_
          refine run_op (loc_assign rfl) rfl ?_
          refine run_op (loc_assign rfl) rfl ?_
          refine run_nil ?_
          refine run_retGP Tryz.func13 rfl (.cellN rfl (by first | exact .here | exact .there .here | exact .there (.there .here) | exact .there (.there (.there .here)) | exact .there (.there (.there (.there .here))) | exact .there (.there (.there (.there (.there .here))))) (by rfl) (.cellN rfl (by first | exact .here | exact .there .here | exact .there (.there .here) | exact .there (.there (.there .here)) | exact .there (.there (.there (.there .here))) | exact .there (.there (.there (.there (.there .here))))) (by rfl) (.tmp rfl (.tmp rfl (.nil))))) ?_ (fun _ _ h => inv_tail (inv_tail (inv_tail (inv_tail (inv_tail (inv_tail (h)))))))
          exact d_tup4 (d_toSrv (t' := v) (by unfold wordV; rw [if_neg hnn, if_neg hmo, hpl.2.1, if_neg c4]) (fun _ _ h => h)) (d_toNte (t' := nte0) (by unfold wordN; rw [if_neg (fun hc => c4 (by have := hc.2.2.2; rwa [hpl.2.1] at this))]) (d_aggU (.cons (d_int rfl) (.cons (d_int rfl) (.cons (d_int rfl) (.cons (d_int rfl) (.cons (d_int rfl) (.cons d_nil (.cons d_nil (.cons (d_int rfl) .nil)))))))))) (d_B ⟨False.elim, fun hc => c4 (by have := hc.2.2.2; rwa [hpl.2.1] at this)⟩) (d_int (by unfold wordE; rw [if_neg (Classical.not_not.2 hup), if_neg (by omega), if_neg hmo, hpl.2.1]))
        ·
          have c4 := Classical.not_not.1 h11
          refine run_skip ?_
          refine run_seq ?_
          have hwr : wordR v p lie := ⟨hup, by omega, hmo, by rw [hpl.2.1]; exact c4⟩
          refine run_region ?_
          refine run_op (loc_move rfl) rfl ?_
          refine run_op (loc_fieldAddrOwn rfl) rfl ?_
          refine run_store1 rfl rfl (.here) (by rfl) ?_
          refine run_nil ?_
          refine run_seq ?_
          refine run_shutRow (f' := cJob) (xs := [(⟨j.read, j.probe, j.version, j.query, j.got ++ [(wordQ (heldV v j.version) j.query j.got.length lie)]⟩ : Job)]) (.there (.there (.there (.here)))) (by rfl) rfl (by have h5 := hcbw; simp only [List.length_cons, List.length_nil, junk_length] at h5 ⊢; omega) hmbw hlbw ?_
          refine run_region ?_
          refine run_op (loc_fieldAddrOwn rfl) rfl ?_
          first | refine run_op (LocP.upV (loc_loadOwn1 rfl (.there (.there (.here))) (by rfl))) rfl ?_ | refine run_op (loc_loadOwn1 rfl (.there (.there (.here))) (by rfl)) rfl ?_
          refine run_callM rfl (.there (.there (.there (.here)))) (spec_rowV (deleteJb_spec _ [(⟨j.read, j.probe, j.version, j.query, j.got ++ [(wordQ (heldV v j.version) j.query j.got.length lie)]⟩ : Job)] 0 1 (by omega) (by simp))) rfl (fun s12 hs12 => ?_)
          refine run_op (loc_fieldAddrOwn rfl) rfl ?_
          refine run_store1 rfl rfl (.there (.there (.here))) (by rfl) ?_
          refine run_nil ?_
          refine run_seq ?_
          first | refine run_freezeRowCellV (kk := 7) (.there (.there (.there (.here)))) (.there (.there (.here))) rfl ?_ | refine run_freezeRowCell (kk := 7) (.there (.there (.there (.here)))) (.there (.there (.here))) rfl ?_
          refine dr_start _ (.none) [⟨[(10, none)], [], some (2, 0, false)⟩,
              ⟨[(15, none)], [], some (0, 0, false)⟩,
              ⟨[(6, none), (121, some (0, false))], [0], some (4, 0, true)⟩,
              ⟨[(7, none), (122, some (1, false))], [0, 1, 2], some (3, 0, true)⟩,
              ⟨[], [0, 1, 2, 3], none⟩,
              ⟨[], [0, 1, 2, 3, 4], none⟩] [_, _, _, _, _] _ rfl rfl ?_
          refine dq_read rfl (fun s => .g rfl (.nil)) rfl rfl (fun s hs _ hm => loc_loadOwnN rfl hm (by rfl)) (by exact .nil) ?_
          refine dq_read rfl (fun s => .g rfl (.nil)) rfl rfl (fun s hs _ hm => loc_loadOwnN rfl hm (by rfl)) (by exact .nil) ?_
          refine dq_write0 rfl (fun s => .g rfl (.op rfl (.nil))) rfl rfl (fun s hs => loc_storeN (ho := (by show OneAll [_, _, _, _, _, _, _, _]; infer_instance)) rfl rfl rfl) (by exact .nil) ?_
          refine dq_write0 rfl (fun s => .g rfl (.op rfl (.nil))) rfl rfl (fun s hs => loc_storeN (ho := (by show OneAll [_, _, _, _, _, _, _, _]; infer_instance)) rfl rfl rfl) (by exact .nil) ?_
          refine dq_pure rfl (fun s => .nil) (fun s hs _ => loc_assign rfl) (by exact .nil) ?_
          refine dq_pure rfl (fun s => .nil) (fun s hs _ => loc_assign rfl) (by exact .nil) ?_
          refine dq_end (rs := [_, _, _, _, _]) () rfl (fun _ => rfl) (.nil) rfl (fun _ => rfl) (fun _ _ => ?_)
          dsimp only [outG, outM, List.map, List.set, id]
          refine run_retGP Tryz.func13 rfl (.cellN rfl (by first | exact .here | exact .there .here | exact .there (.there .here) | exact .there (.there (.there .here)) | exact .there (.there (.there (.there .here))) | exact .there (.there (.there (.there (.there .here))))) (by rfl) (.cellN rfl (by first | exact .here | exact .there .here | exact .there (.there .here) | exact .there (.there (.there .here)) | exact .there (.there (.there (.there .here))) | exact .there (.there (.there (.there (.there .here))))) (by rfl) (.tmp rfl (.tmp rfl (.nil))))) ?_ (fun _ _ h => inv_tail (inv_tail (inv_tail (inv_tail (inv_tail (h))))))
          exact d_tup4 (d_toSrv (t' := { v with jobs := [] }) (by unfold wordV; rw [if_neg hnn, if_neg hmo, hpl.2.1, if_pos c4, hj]; rfl) (fun _ _ h => h)) (d_toNte (t' := { (⟨2, j.read, j.probe, v.id, j.version, j.query, j.got ++ [(wordQ (heldV v j.version) j.query j.got.length lie)], 0⟩ : Nte) with mark := signM p.secret (numsN (⟨2, j.read, j.probe, v.id, j.version, j.query, j.got ++ [(wordQ (heldV v j.version) j.query j.got.length lie)], 0⟩ : Nte)) }) (by unfold wordN; rw [if_pos hwr, hpl.2.1]) (fun _ _ h => h)) (d_B ⟨fun _ => hwr, fun _ => trivial⟩) (d_int (by unfold wordE; rw [if_neg (Classical.not_not.2 hup), if_neg (by omega), if_neg hmo, hpl.2.1, c4]))

end Go.Q

namespace Go.Q
open Classical

def egT30 : Tab := ⟨4, 7, 2, [[1, 2], [3, 4]]⟩
theorem egT30_ok : checkT egT30 = 0 :=
  checkT_zero (t := egT30) (by unfold egT30; simp only; omega) okP_7 (by unfold egT30; simp only; omega) (by unfold egT30; simp) (fun r hr => by
    unfold egT30 at hr ⊢
    simp only [List.mem_cons, List.not_mem_nil, or_false] at hr
    rcases hr with rfl | rfl
    · exact ⟨rfl, fun x hx => by simp only [List.mem_cons, List.not_mem_nil, or_false] at hx; unfold hasP; simp only; omega⟩
    · exact ⟨rfl, fun x hx => by simp only [List.mem_cons, List.not_mem_nil, or_false] at hx; unfold hasP; simp only; omega⟩)
def egH30 : Held := ⟨⟨4, 7, 2, 2, rootD [rowD [1, 2], rowD [3, 4]]⟩, [[1, 2], [3, 4]]⟩
def egV30 (js : List Job) : Srv := ⟨1, s12, True, [egH30], js⟩
def egJ30 (g : List Int) : Job := ⟨0, 0, 4, [1, 1], g⟩
def egN30 : Nte := ⟨1, 0, 0, 1, 4, [1, 1], [], 0⟩
theorem egV30_at (js : List Job) : atV (egV30 js) 4 = 0 ∧ thereV (egV30 js) 4 ∧ heldV (egV30 js) 4 = egH30 := by
  have e : atV (egV30 js) 4 = 0 := atV_at (Nat.zero_le _) (fun a ha => by omega) (fun a _ hb => by
    have : a = 0 := by unfold egV30 at hb; simp at hb; exact hb
    subst this; exact Int.le_refl _)
  refine ⟨e, ⟨by rw [e]; exact Nat.zero_lt_one, by rw [e]; rfl⟩, by unfold heldV; rw [e]; rfl⟩
theorem egH30_ok : okHeld egH30 := by
  refine ⟨okP_7, by unfold egH30; simp only; omega, by unfold egH30; simp, fun r hr => ?_⟩
  have h := (checkT_ok egT30_ok).2.2.2.2 r hr
  exact h
theorem egV30_ok {g : List Int} (h : g.length < 2) (hg : allP 7 g) : okSrv (egV30 [egJ30 g]) := by
  obtain ⟨h1, h2, h3⟩ := egV30_at [egJ30 g]
  refine ⟨by unfold egV30; simp, by unfold egV30; simp, fun x hx => ?_, fun i j hij hj => ?_, fun j hj => ?_⟩
  · rw [show x = egH30 from List.mem_singleton.1 hx]; exact egH30_ok
  · have : j < 1 := hj
    omega
  · rw [show j = egJ30 g from List.mem_singleton.1 hj]
    refine ⟨h2, ?_, ?_, ?_, ?_⟩
    · show ([1, 1] : List Int).length = (heldV (egV30 [egJ30 g]) 4).rows.length
      rw [h3]; rfl
    · show allP (heldV (egV30 [egJ30 g]) 4).head.p [1, 1]
      rw [h3]
      intro x hx
      simp only [List.mem_cons, List.not_mem_nil, or_false] at hx
      show 0 ≤ x ∧ x < 7
      omega
    · show (g.length : Int) < (heldV (egV30 [egJ30 g]) 4).head.width
      rw [h3]; show (g.length : Int) < 2; omega
    · show allP (heldV (egV30 [egJ30 g]) 4).head.p g
      rw [h3]; exact hg
theorem eg_load : loadE ⟨1, s12, True, [], []⟩ egT30 = 0 ∧ loadV ⟨1, s12, True, [], []⟩ egT30 = egV30 [] := by
  have hno : ¬ thereV ⟨1, s12, True, [], []⟩ 4 := fun h => by have := h.1; simp at this
  have e : loadE ⟨1, s12, True, [], []⟩ egT30 = 0 := by
    unfold loadE
    rw [if_neg (Classical.not_not.2 trivial), if_neg (Classical.not_not.2 egT30_ok), if_neg (Classical.not_not.2 (show validS s12 egT30.p from s12_valid)), if_neg (by unfold egT30; simp), if_neg (show ¬ thereV _ egT30.number from hno), if_neg (by simp)]
    exact (s12_hold egT30_ok rfl).1
  refine ⟨e, ?_⟩
  have h3 : headT egT30 = egH30.head := by rw [head_ok egT30_ok]; rfl
  unfold loadV
  rw [if_pos e, h3, show hldL s12 egT30 1 = egT30.rows from (s12_hold egT30_ok rfl).2]
  simp only [List.take_nil, List.drop_nil, List.nil_append, List.append_nil]
  rfl
theorem eg_ask : askE (egV30 []) egN30 = 0 ∧ askV (egV30 []) egN30 = egV30 [egJ30 []] := by
  obtain ⟨h1, h2, h3⟩ := egV30_at []
  have e : askE (egV30 []) egN30 = 0 := by
    unfold askE
    rw [if_neg (Classical.not_not.2 (show (egV30 []).up from trivial)), if_neg (by unfold egN30 egV30; simp), if_neg (Classical.not_not.2 (show thereV (egV30 []) egN30.version from h2)), show heldV (egV30 []) egN30.version = egH30 from h3,
      if_neg (by
        rintro (h | h)
        · exact h rfl
        · refine h ⟨okP_7, fun x hx => ?_⟩
          have hx' : x ∈ ([1, 1] : List Int) := hx
          simp only [List.mem_cons, List.not_mem_nil, or_false] at hx'
          show 0 ≤ x ∧ x < 7
          omega),
      if_neg (by rintro ⟨b, hb, _⟩; cases hb), if_neg (by unfold egV30; simp)]
  exact ⟨e, by unfold askV; rw [if_pos e]; rfl⟩
theorem eg_sz (js : List Job) (h : js.length ≤ 1) (h2 : ∀ j ∈ js, j.query.length ≤ 100000 ∧ j.got.length ≤ 100000) : (egV30 js).versions.length ≤ 1000 ∧ (egV30 js).jobs.length ≤ 1000 ∧ (∀ h ∈ (egV30 js).versions, h.rows.length ≤ 100000 ∧ ∀ r ∈ h.rows, r.length ≤ 100000) ∧ ∀ j ∈ (egV30 js).jobs, j.query.length ≤ 100000 ∧ j.got.length ≤ 100000 := by
  refine ⟨by unfold egV30; simp, by show js.length ≤ 1000; omega, fun x hx => ?_, h2⟩
  rw [show x = egH30 from List.mem_singleton.1 hx]
  refine ⟨by unfold egH30; simp, fun r hr => ?_⟩
  have := ((checkT_ok egT30_ok).2.2.2.2 r hr).1
  have : (r.length : Int) = 2 := this
  omega
theorem eg_word {g : List Int} {x : Int} (hx : wordX egH30 (egJ30 g) 0 = x) : job1 (egV30 [egJ30 g]) 0 = egJ30 (g ++ [x]) ∧ (moreV (egV30 [egJ30 g]) 0 ↔ (g.length : Int) + 1 < 2) := by
  obtain ⟨h1, h2, h3⟩ := egV30_at [egJ30 g]
  have e1 : job1 (egV30 [egJ30 g]) 0 = egJ30 (g ++ [x]) := by
    unfold job1
    show ({ egJ30 g with got := g ++ [wordX (heldV (egV30 [egJ30 g]) 4) (egJ30 g) 0] } : Job) = _
    rw [h3, hx]; rfl
  refine ⟨e1, ?_⟩
  unfold moreV
  rw [e1]
  show ((g ++ [x]).length : Int) < (heldV (egV30 [egJ30 g]) 4).head.width ↔ _
  rw [h3, List.length_append]
  show ((g.length + 1 : Nat) : Int) < 2 ↔ _
  omega
theorem eg_word1 : wordE (egV30 [egJ30 []]) ⟨1, 5⟩ 0 = 0 ∧ ¬ wordR (egV30 [egJ30 []]) ⟨1, 5⟩ 0 ∧ wordV (egV30 [egJ30 []]) ⟨1, 5⟩ 0 = egV30 [egJ30 [4]] := by
  obtain ⟨h1, h2⟩ := eg_word (g := []) (x := 4) (by rfl)
  have hm : moreV (egV30 [egJ30 []]) 0 := h2.2 (by simp)
  refine ⟨?_, fun h => h.2.2.1 hm, ?_⟩
  · unfold wordE; rw [if_neg (Classical.not_not.2 (show (egV30 [egJ30 []]).up from trivial)), if_neg (by unfold egV30; simp), if_pos hm]
  · unfold wordV; rw [if_neg (by rintro (h | h); (· exact h trivial); (· simp [egV30] at h)), if_pos hm, h1]; rfl
theorem eg_word2 : wordE (egV30 [egJ30 [4]]) ⟨1, 5⟩ 0 = 0 ∧ wordR (egV30 [egJ30 [4]]) ⟨1, 5⟩ 0 ∧ wordV (egV30 [egJ30 [4]]) ⟨1, 5⟩ 0 = egV30 [] ∧ (wordN (egV30 [egJ30 [4]]) ⟨1, 5⟩ 0).values = [4, 6] := by
  obtain ⟨h1, h2⟩ := eg_word (g := [4]) (x := 6) (by rfl)
  have hm : ¬ moreV (egV30 [egJ30 [4]]) 0 := fun h => by have := h2.1 h; simp at this
  have hs : signE 5 (numsN (note1 (egV30 [egJ30 [4]]) 0)) = 0 := by
    unfold note1 signE; rw [h1, if_neg (by omega), if_neg (by unfold numsN egJ30; simp)]
  have hr : wordR (egV30 [egJ30 [4]]) ⟨1, 5⟩ 0 := ⟨trivial, by unfold egV30; simp, hm, hs⟩
  refine ⟨?_, hr, ?_, ?_⟩
  · unfold wordE; rw [if_neg (Classical.not_not.2 (show (egV30 [egJ30 [4]]).up from trivial)), if_neg (by unfold egV30; simp), if_neg hm]; exact hs
  · unfold wordV; rw [if_neg (by rintro (h | h); (· exact h trivial); (· simp [egV30] at h)), if_neg hm, if_pos hs]; rfl
  · unfold wordN; rw [if_pos hr]; unfold note1; rw [h1]; rfl
end Go.Q
