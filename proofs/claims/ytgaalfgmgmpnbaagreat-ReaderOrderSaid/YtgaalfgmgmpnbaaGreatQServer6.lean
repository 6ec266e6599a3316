/- Contracts of wishes. -/
import Derived.Test.YtgaalfgmgmpnbaaGreatQRLim
import Derived.Test.YtgaalfgmgmpnbaaGreatQDraws
import Derived.Test.YtgaalfgmgmpnbaaGreatQRound
import Derived.Test.YtgaalfgmgmpnbaaGreatQDice
set_option linter.unusedVariables false
set_option linter.unusedSimpArgs false
namespace Go.Q
open Go.Proofs
open Classical
abbrev fQ (x : List (List Int)) : List D := [dRows x]
abbrev dQs (xs : List (List (List Int))) : D := dSl 1 fQ xs
theorem d_toQs {d : D} {t t' : List (List (List Int))} (e : t = t') (h : ∀ I v, d.rel I v → (dQs t').rel I v) : ∀ I v, d.rel I v → (dQs t).rel I v := e ▸ h
theorem wwithin_spec (n lo hi : Int) : SpecP Tryz.prog 159 [dInt .i64 n, dInt .i64 lo, dInt .i64 hi] (dB (lo ≤ n ∧ n ≤ hi)) := by
 refine specP_of_body Tryz.func159 rfl rfl (fun I M => ?_)
 refine au 17 ?_
 refine run_retP Tryz.func159 rfl rfl ?_
 exact d_B (by constructor <;> (intro h; omega))
theorem wvalid1_spec (n r : Int) (hn : 1 ≤ n ∧ n ≤ 1024) : SpecP Tryz.prog 160 [dInt .i64 r, dBox [dInt .i64 n]] (dB (¬ (-1 ≤ r ∧ r ≤ n - 1))) := by
 refine specP_of_body Tryz.func160 rfl rfl (fun I M => ?_)
 refine au 9 ?_
 refine run_op (loc_call (wwithin_spec _ _ _) rfl) rfl ?_
 refine au 3 ?_
 refine run_retP Tryz.func160 rfl rfl ?_
 exact fun _ _ h => h
theorem cfW_spec (n : Int) (hn : 1 ≤ n ∧ n ≤ 1024) (ls : List Int) : SpecP Tryz.prog 138 [dInts ls, dClo 160 [dBox [dInt .i64 n]]] (dB (∃ x ∈ ls, ¬ (-1 ≤ x ∧ x ≤ n - 1))) :=
 specP_pre (containsFuncI_spec (fun x => ¬ (-1 ≤ x ∧ x ≤ n - 1)) ls) (relL_last (ds := [dInts ls]) (clo_fun (P := Tryz.prog) (Ds := fun x : Int => [dInt .i64 x]) (d := fun x => dB (¬ (-1 ≤ x ∧ x ≤ n - 1))) (fun x => wvalid1_spec n x hn)))
theorem wvalid_spec (rows : List Int) (n : Int) : SpecP Tryz.prog 124 [dInts rows, dInt .i64 n] (dB (okW n rows)) := by
 refine specP_of_body Tryz.func124 rfl rfl (fun I M => ?_)
 refine au 8 ?_
 refine run_op (loc_call (wwithin_spec _ _ _) rfl) rfl ?_
 refine au 3 ?_
 refine run_gop rfl rfl gdI.ok (fun hg => loc_call (wwithin_spec _ _ _) rfl) rfl ?_
 refine au 5 ?_
 refine run_gop rfl rfl gdI.ok (fun hg => loc_call (cfW_spec n (by omega) _) rfl) rfl ?_
 refine au 5 ?_
 refine run_retP Tryz.func124 rfl rfl ?_
 exact d_B (by unfold okW; constructor; (· rintro ⟨⟨a, b⟩, c⟩; exact ⟨a, b, fun r hr => Classical.not_not.1 fun h => c ⟨r, hr, h⟩⟩); (· rintro ⟨a, b, c⟩; exact ⟨⟨a, b⟩, fun ⟨r, hr, h⟩ => h (c r hr)⟩))
theorem wqueries_spec (s : Schm) (p n : Int) (rows : List Int) (t : Tape) : SpecP Tryz.prog 125 [dSchm s, dAgg [dInt .i64 p], dInt .i64 n, dInts rows, dTape t] (dTup [dQs (wqL s p n rows t), dTape (wqT s p n rows t), dInt .i64 (wqE s p n rows t)]) := by
  refine specP_of_body Tryz.func125 rfl rfl (fun I M => ?_)
  refine au 4 ?_
  refine run_new (loc_boxOwnN rfl) rfl (fun b9 _ => ?_)
  refine au 1 ?_
  refine run_new (loc_allocOwn (by simp)) rfl (fun b1 _ => ?_)
  refine au 8 ?_
  refine run_op (loc_call (valid_spec _ _) rfl) rfl ?_
  refine au 3 ?_
  refine run_cond rfl (fun h2 => ?_) (fun h2 => ?_)
  ·
   have c1 := h2
   refine au 7 ?_
   refine run_retGP Tryz.func125 rfl (.tmp rfl (.cellN rfl (.here) (by rfl) (.tmp rfl (.nil)))) ?_ (fun _ _ h => inv_tail (inv_tail (h)))
   exact d_tup3 (d_toQs (by unfold wqL wqE; rw [if_pos c1, if_neg (by omega)]) d_nil) (d_toTape (by unfold wqT wqE; rw [if_pos c1, if_neg (by omega)]) (d_aggU (.cons d_nil (.cons (d_int rfl) .nil)))) (d_int (by unfold wqE; rw [if_pos c1]))
  ·
   have c1 := Classical.not_not.1 h2
   refine au 4 ?_
   refine run_op (loc_call (wvalid_spec _ _) rfl) rfl ?_
   refine au 3 ?_
   refine run_cond rfl (fun h3 => ?_) (fun h3 => ?_)
   ·
    have c2 := h3
    refine au 7 ?_
    refine run_retGP Tryz.func125 rfl (.tmp rfl (.cellN rfl (.here) (by rfl) (.tmp rfl (.nil)))) ?_ (fun _ _ h => inv_tail (inv_tail (h)))
    exact d_tup3 (d_toQs (by unfold wqL wqE; rw [if_neg (Classical.not_not.2 c1), if_pos c2, if_neg (by omega)]) d_nil) (d_toTape (by unfold wqT wqE; rw [if_neg (Classical.not_not.2 c1), if_pos c2, if_neg (by omega)]) (d_aggU (.cons d_nil (.cons (d_int rfl) .nil)))) (d_int (by unfold wqE; rw [if_neg (Classical.not_not.2 c1), if_pos c2]))
   ·
    have c2 := Classical.not_not.1 h3
    refine au 10 ?_
    first | refine runL_fact (s := 31) rfl (fun _ _ h => dSl_len h) (fun hlen4 => ?_) | skip
    refine au 4 ?_
    refine run_rowNil 30 1 fQ ?_
    refine run_front (.here) ?_
    refine run_front (.there (.there (.here))) ?_
    refine run_loopF (σ := Value × Nat) (ks := [2, 5, 6, 9, 11, 31, 32]) (.cons rfl (.cons rfl (.cons rfl (.cons rfl (.cons rfl (.cons rfl (.cons rfl (.nil)))))))) (fun q => [(13, dVal q.1), (33, dInt .i64 (q.2 : Nat))]) (fun q => [rCells b9 122 (cTape (qsT s p n (rows.take q.2) t)), rRow q.1 30 1 fQ (qsL s p n (rows.take q.2) t)]) (fun q => q.2 ≤ rows.length ∧ qsE s p n (rows.take q.2) t = 0) (fun q => rows.length - q.2) ((.slice none 0 0, 0)) (⟨Nat.zero_le _, by simp [qsE]⟩) (.cons rfl (by first | exact fun _ _ h => h | exact d_int (by omega) | exact d_int (by simp) | exact d_intN (by omega) | exact d_any) (.cons rfl (by first | exact fun _ _ h => h | exact d_int (by omega) | exact d_int (by simp) | exact d_intN (by omega) | exact d_any) .nil)) (rfl) ?_
    rintro q ⟨hql, hq0⟩ ih5
    have hqn : (qsL s p n (rows.take q.2) t).length = q.2 := by rw [qsL_len, List.length_take]; omega
    have hw16 := c2.2.1
    refine au 5 ?_
    refine run_cond rfl (fun h6 => ?_) (fun h6 => ?_)
    ·
     refine au 15 ?_
     refine run_op (loc_max rfl rfl) rfl ?_
     refine au 1 ?_
     refine run_op (loc_call (squeries_spec _ _ _ _ _) rfl) rfl ?_
     refine au 4 ?_
     refine run_new (loc_allocOwn (by simp)) rfl (fun b7 _ => ?_)
     refine au 10 ?_
     refine run_cond rfl (fun h8 => ?_) (fun h8 => ?_)
     ·
      have c5 := h8
      refine au 8 ?_
      have hE : wqE s p n rows t = qryE s p n (max (rows[q.2]?.getD default) 0) (qsT s p n (rows.take q.2) t) := by unfold wqE; rw [if_neg (Classical.not_not.2 c1), if_neg (Classical.not_not.2 c2), qs_stop (by omega) hq0 c5]
      refine run_retGP Tryz.func125 rfl (.tmp rfl (.cellN rfl (.there (.there (.there (.here)))) (by rfl) (.tmp rfl (.nil)))) ?_ (fun _ _ h => inv_tail (inv_tail (inv_tail (inv_tail (h)))))
      exact d_tup3 (d_toQs (by unfold wqL; rw [hE, if_neg c5]) d_nil) (d_toTape (by unfold wqT; rw [hE, if_neg c5]) (d_aggU (.cons d_nil (.cons (d_int rfl) .nil)))) (d_int hE.symm)
     ·
      have c5 := Classical.not_not.1 h8
      refine au 1 ?_
      refine dr_start _ (.one (σ := Value) 3 (fun _ => True)) [⟨[(13, none)], [], none⟩,
          ⟨[(16, none)], [], none⟩,
          ⟨[(53, some (1, false))], [1], none⟩,
          ⟨[(52, some (0, false)), (54, some (2, false))], [0, 1, 2], some (2, 0, true)⟩,
          ⟨[(17, none)], [], some (0, 0, false)⟩,
          ⟨[(55, some (3, false))], [0, 1, 2, 3], none⟩,
          ⟨[(9, none), (56, some (4, false))], [0, 1, 2, 3, 4, 5], some (1, 0, true)⟩] [_, _, _, _] _ rfl rfl ?_
      refine da 2 ?_
      refine dq_pure rfl (fun s => .op rfl (.nil)) (fun s hs _ => loc_buildSlice rfl rfl (.one rfl (.nil)) rfl rfl) (by exact .cons (.inr fun _ _ _ => rfl) (.nil)) ?_
      refine dq_choose id (fun _ t => t) rfl (fun _ _ => ⟨rfl, id, trivial⟩) (fun s => .op rfl (.op rfl (.nil))) rfl rfl (fun s hs => loc_append1 _ rfl rfl rfl rfl (by first | omega | (simp [lenMax]; omega) | (simp [lenMax]; done) | assumption) (by first | omega | (simp [lenMax]; omega) | (simp [lenMax]; done) | assumption)) (by exact .cons (.inl rfl) (.nil)) (fun _ _ => rfl) ?_
      refine da 2 ?_
      refine dq_write0 rfl (fun s => .g rfl (.op rfl (.nil))) rfl rfl (fun s hs => loc_storeN (ho := (by show OneAll [_, _]; infer_instance)) rfl rfl rfl) (by exact .cons (.inl rfl) (.nil)) ?_
      refine dq_end (rs := [_, _, _, _]) (.bool true) rfl (fun _ => rfl) (.cons rfl (.nil)) rfl (fun _ => rfl) (fun v9 _ => ?_)
      dsimp only [outG, outM, List.map, List.set, id]
      refine au 5 ?_
      refine run_drop (.cons _ (.refl _)) ?_
      exact run_againF ih5 ((v9, q.2 + 1)) (⟨by simp only; omega, (qs_step (by omega) hq0 c5).1⟩) (by simp only; omega) (.cons rfl (by first | exact fun _ _ h => h | exact d_int (by omega) | exact d_int (by simp) | exact d_intN (by omega) | exact d_any) (.cons rfl (by first | exact fun _ _ h => h | exact d_int (by omega) | exact d_int (by simp) | exact d_intN (by omega) | exact d_any) .nil)) (.cons rfl (fun _ _ x => x) (.cons rfl (fun _ _ x => x) (.cons rfl (fun _ _ x => x) (.cons rfl (fun _ _ x => x) (.cons rfl (fun _ _ x => x) (.cons rfl (fun _ _ x => x) (.cons rfl (fun _ _ x => x) (.nil)))))))) (by simp only [appR]; rw [(qs_step (by omega) hq0 c5).2.1, (qs_step (by omega) hq0 c5).2.2]; rfl)
    ·
     refine au 2 ?_
     have hall : rows.take q.2 = rows := List.take_of_length_le (by omega)
     have hE : wqE s p n rows t = 0 := by unfold wqE; rw [if_neg (Classical.not_not.2 c1), if_neg (Classical.not_not.2 c2), ← hall]; exact hq0
     refine run_freezeRow (s := 13) rfl (.there (.here)) ?_
     refine dr_start _ (.none) [⟨[(13, none)], [], none⟩,
         ⟨[(9, none)], [], some (0, 0, false)⟩,
         ⟨[(58, some (0, false))], [0], none⟩,
         ⟨[(11, none), (59, some (1, false))], [0, 1, 2], some (1, 0, true)⟩,
         ⟨[], [0, 1, 2, 3], none⟩] [_, _] _ rfl rfl ?_
     refine da 3 ?_
     refine dq_write0 rfl (fun s => .g rfl (.op rfl (.nil))) rfl rfl (fun s hs => loc_storeN (ho := (by show OneAll [_, _]; infer_instance)) rfl rfl rfl) (by exact .nil) ?_
     refine da 1 ?_
     refine dq_end (rs := [_, _]) () rfl (fun _ => rfl) (.nil) rfl (fun _ => rfl) (fun _ _ => ?_)
     dsimp only [outG, outM, List.map, List.set, id]
     refine run_retGP Tryz.func125 rfl (.tmp rfl (.cellN rfl (.there (.here)) (by rfl) (.tmp rfl (.nil)))) ?_ (fun _ _ h => inv_tail (inv_tail (h)))
     exact d_tup3 (d_toQs (t' := qsL s p n (rows.take q.2) t) (by unfold wqL; rw [if_pos hE, hall]) (fun _ _ h => h)) (d_toTape (t' := qsT s p n (rows.take q.2) t) (by unfold wqT; rw [if_pos hE, hall]) (fun _ _ h => h)) (d_int hE.symm)
end Go.Q

namespace Go.Q
open Classical
structure Rdr where
 read : Int
 scheme : Schm
 head : Hd
 rows : List Int
 queries : List (List (List Int))
 answers : List (List Ans)
 marks : List (List Int)
 ended : Prop
noncomputable def bgE (rd : Int) (s : Schm) (hd : Hd) (rows : List Int) (t : Tape) : Int := if rd < 0 then 1 else if ¬ validS s hd.p then 40 else if ¬ okW hd.count rows ∨ hd.width < 1 ∨ hd.width > 64 then 41 else wqE s hd.p hd.count rows t
def rdr0 : Rdr := ⟨0, ⟨0, 0, 0, 0⟩, ⟨0, 0, 0, 0, 0⟩, [], [], [], [], False⟩
noncomputable def bgR (rd : Int) (s : Schm) (hd : Hd) (rows : List Int) (t : Tape) : Rdr := if bgE rd s hd rows t = 0 then ⟨rd, s, hd, rows, wqL s hd.p hd.count rows t, List.replicate rows.length (List.replicate s.servers.toNat ⟨False, []⟩), List.replicate rows.length (List.replicate s.servers.toNat 0), False⟩ else rdr0
noncomputable def bgT (rd : Int) (s : Schm) (hd : Hd) (rows : List Int) (t : Tape) : Tape := if bgE rd s hd rows t = 0 then wqT s hd.p hd.count rows t else ⟨[], 0⟩
def probeN (rd ver : Int) (i : Nat) (p : List (List Int)) (k : Nat) : List Nte := (List.range k).map fun (j : Nat) => ⟨1, rd, i, (j : Int) + 1, ver, p[j]?.getD default, [], 0⟩
def notesN (rd ver : Int) (qs : List (List (List Int))) (k : Nat) : List Nte := (List.range k).flatMap fun (i : Nat) => probeN rd ver i (qs[i]?.getD default) (qs[i]?.getD default).length
theorem probeN_len (rd ver : Int) (i : Nat) (p : List (List Int)) (k : Nat) : (probeN rd ver i p k).length = k := by simp [probeN]
theorem probeN_snoc (rd ver : Int) (i : Nat) (p : List (List Int)) (k : Nat) : probeN rd ver i p (k + 1) = probeN rd ver i p k ++ [⟨1, rd, i, (k : Int) + 1, ver, p[k]?.getD default, [], 0⟩] := by
 unfold probeN; rw [List.range_succ, List.map_append]; rfl
theorem notesN_snoc (rd ver : Int) (qs : List (List (List Int))) (k : Nat) : notesN rd ver qs (k + 1) = notesN rd ver qs k ++ probeN rd ver k (qs[k]?.getD default) (qs[k]?.getD default).length := by
 unfold notesN; rw [List.range_succ, List.flatMap_append]; simp
theorem notesN_len {rd ver : Int} {qs : List (List (List Int))} {m : Nat} (hm : ∀ q ∈ qs, q.length = m) : ∀ {k : Nat}, k ≤ qs.length → (notesN rd ver qs k).length = k * m
 | 0, _ => by simp [notesN]
 | k + 1, h => by rw [notesN_snoc, List.length_append, notesN_len hm (by omega), probeN_len, hm _ (getD_mem (by omega)), Nat.add_mul, Nat.one_mul]
theorem notesN_get {rd ver : Int} {qs : List (List (List Int))} {m : Nat} (hm : ∀ q ∈ qs, q.length = m) (h0 : 0 < m) : ∀ {k i : Nat}, k ≤ qs.length → i < k * m → (notesN rd ver qs k)[i]?.getD default = ⟨1, rd, ((i / m : Nat) : Int), ((i % m : Nat) : Int) + 1, ver, (qs[i / m]?.getD default)[i % m]?.getD default, [], 0⟩
 | 0, i, _, h => by simp at h
 | k + 1, i, hk, h => by
  have hl := notesN_len (rd := rd) (ver := ver) hm (k := k) (by omega)
  have hq := hm _ (getD_mem (xs := qs) (k := k) (by omega))
  rw [notesN_snoc]
  by_cases hi : i < k * m
  ·rw [List.getElem?_append_left (by omega)]
   exact notesN_get hm h0 (by omega) hi
  ·rw [Nat.add_mul, Nat.one_mul] at h
   have e1 : i / m = k := by
    rw [Nat.div_eq_iff h0]; constructor
    ·omega
    ·omega
   have e2 : i % m = i - k * m := by
    have := Nat.div_add_mod i m
    rw [e1, Nat.mul_comm] at this; omega
   rw [List.getElem?_append_right (by omega), hl, hq, e1, e2]
   unfold probeN
   rw [List.getElem?_map, List.getElem?_range (by omega)]
   rfl
theorem notesN_le {rd ver : Int} {qs : List (List (List Int))} (hm : ∀ q ∈ qs, q.length ≤ 1000) : ∀ {k : Nat}, k ≤ qs.length → (notesN rd ver qs k).length ≤ k * 1000
 | 0, _ => by simp [notesN]
 | k + 1, h => by
  have h1 := notesN_le (rd := rd) (ver := ver) hm (k := k) (by omega)
  have h2 := hm _ (getD_mem (xs := qs) (k := k) (by omega))
  rw [notesN_snoc, List.length_append, probeN_len, Nat.add_mul]
  omega
noncomputable def silN (l : List Ans) (k : Nat) : List Int := ((List.range k).filter fun (i : Nat) => decide (¬ (l[i]?.getD default).known)).map fun (i : Nat) => (i : Int) + 1
theorem silN_len (l : List Ans) (k : Nat) : (silN l k).length ≤ k := by
 unfold silN; rw [List.length_map]
 exact Nat.le_trans (List.length_filter_le _ _) (by simp)
theorem silN_snoc (l : List Ans) (k : Nat) : silN l (k + 1) = if (l[k]?.getD default).known then silN l k else silN l k ++ [(k : Int) + 1] := by
 unfold silN
 rw [List.range_succ, List.filter_append, List.map_append]
 split
 ·rename_i h; simp [h]
 ·rename_i h; simp [h]
noncomputable def silR (r : Rdr) (k : Int) : List Int := if k < 0 ∨ k ≥ r.answers.length then [] else silN (r.answers[k.toNat]?.getD default) (r.answers[k.toNat]?.getD default).length
end Go.Q

namespace Go.Q
open Go.Proofs
open Classical
abbrev fAs (x : List Ans) : List D := [dSl 2 cAns x]
abbrev dAs (xs : List (List Ans)) : D := dSl 1 fAs xs
abbrev cRdr (r : Rdr) : List D := [dInt .i64 r.read, dInt .i64 r.scheme.kind, dInt .i64 r.scheme.servers, dInt .i64 r.scheme.degree, dInt .i64 r.scheme.group, dInt .i64 r.head.number, dInt .i64 r.head.p, dInt .i64 r.head.count, dInt .i64 r.head.width, dInt .i64 r.head.root, dInts r.rows, dQs r.queries, dAs r.answers, dRows r.marks, dB r.ended]
abbrev dRdr (r : Rdr) : D := dAgg (cRdr r)
abbrev dNts (l : List Nte) : D := dSl 8 cNte l
theorem d_toRdr {d : D} {t t' : Rdr} (e : t = t') (h : ∀ I v, d.rel I v → (dRdr t').rel I v) : ∀ I v, d.rel I v → (dRdr t).rel I v := e ▸ h
theorem ansUp {J : Imm} {vs : List Value} (h : relL (zeroDs (.agg #[.bool false, .slice none 0 0])) J vs) : relL (cAns ⟨False, []⟩) J vs := by
 match vs, h with
 | [a, b], hr => exact ⟨hr.1, d_nil _ _ hr.2.1, trivial⟩
theorem fieldOf_spec (hd : Hd) : SpecP Tryz.prog 123 [dHd hd] (dAgg [dInt .i64 hd.p]) := by
 refine specP_of_body Tryz.func123 rfl rfl (fun I M => ?_)
 refine au 3 ?_
 refine run_new (loc_allocOwn (by simp)) rfl (fun b1 _ => ?_)
 refine au 8 ?_
 refine run_retGP Tryz.func123 rfl (.cellN rfl (.here) (by rfl) (.nil)) ?_ (fun _ _ h => inv_tail (h))
 exact fun _ _ h => h
theorem begin_spec (rd : Int) (sc : Schm) (hd : Hd) (rows : List Int) (t : Tape) : SpecP Tryz.prog 75 [dInt .i64 rd, dSchm sc, dHd hd, dInts rows, dTape t] (dTup [dRdr (bgR rd sc hd rows t), dTape (bgT rd sc hd rows t), dInt .i64 (bgE rd sc hd rows t)]) := by
  refine specP_of_body Tryz.func75 rfl rfl (fun I M => ?_)
  refine au 5 ?_
  refine run_new (loc_allocOwn (by simp)) rfl (fun b1 _ => ?_)
  refine run_new (loc_allocOwn (by simp)) rfl (fun b2 _ => ?_)
  refine au 10 ?_
  refine run_cond rfl (fun h3 => ?_) (fun h3 => ?_)
  ·
   have c1 := h3
   refine au 8 ?_
   have hE : bgE rd sc hd rows t = 1 := by unfold bgE; rw [if_pos c1]
   refine run_retGP Tryz.func75 rfl (.cellN rfl (.there (.here)) (by rfl) (.cellN rfl (.here) (by rfl) (.tmp rfl (.nil)))) ?_ (fun _ _ h => inv_tail (inv_tail (h)))
   exact d_tup3 (d_toRdr (by unfold bgR; rw [if_neg (by rw [hE]; omega)]) (d_aggU (.cons (d_int rfl) (.cons (d_int rfl) (.cons (d_int rfl) (.cons (d_int rfl) (.cons (d_int rfl) (.cons (d_int rfl) (.cons (d_int rfl) (.cons (d_int rfl) (.cons (d_int rfl) (.cons (d_int rfl) (.cons d_nil (.cons d_nil (.cons d_nil (.cons d_nil (.cons (d_B Iff.rfl) .nil))))))))))))))))) (d_toTape (by unfold bgT; rw [if_neg (by rw [hE]; omega)]) (d_aggU (.cons d_nil (.cons (d_int rfl) .nil)))) (d_int hE.symm)
  ·
   have c1 := h3
   refine au 1 ?_
   refine dr_start _ (.none) [⟨[(6, none)], [], none⟩,
       ⟨[(7, none)], [], none⟩,
       ⟨[(24, some (1, false))], [1], none⟩,
       ⟨[(23, some (0, false)), (25, some (2, false))], [0, 1, 2], none⟩,
       ⟨[(26, some (3, false))], [0, 1, 2, 3], none⟩,
       ⟨[(27, some (4, false))], [0, 1, 2, 3, 4], none⟩] [] _ rfl rfl ?_
   refine da 2 ?_
   refine dq_pure rfl (fun s => .op rfl (.nil)) (fun s hs _ => loc_call (fieldOf_spec _) rfl) (by exact .nil) ?_
   refine dq_pure rfl (fun s => .op rfl (.op rfl (.nil))) (fun s hs _ => loc_call (valid_spec _ _) rfl) (by exact .nil) ?_
   refine da 2 ?_
   refine dq_end (rs := []) () rfl (fun _ => rfl) (.nil) rfl (fun _ => rfl) (fun _ _ => ?_)
   dsimp only [outG, outM, List.map, List.set, id]
   refine run_cond rfl (fun h4 => ?_) (fun h4 => ?_)
   ·
    have c2 := h4
    refine au 8 ?_
    have hE : bgE rd sc hd rows t = 40 := by unfold bgE; rw [if_neg c1, if_pos c2]
    refine run_retGP Tryz.func75 rfl (.cellN rfl (.there (.here)) (by rfl) (.cellN rfl (.here) (by rfl) (.tmp rfl (.nil)))) ?_ (fun _ _ h => inv_tail (inv_tail (h)))
    exact d_tup3 (d_toRdr (by unfold bgR; rw [if_neg (by rw [hE]; omega)]) (d_aggU (.cons (d_int rfl) (.cons (d_int rfl) (.cons (d_int rfl) (.cons (d_int rfl) (.cons (d_int rfl) (.cons (d_int rfl) (.cons (d_int rfl) (.cons (d_int rfl) (.cons (d_int rfl) (.cons (d_int rfl) (.cons d_nil (.cons d_nil (.cons d_nil (.cons d_nil (.cons (d_B Iff.rfl) .nil))))))))))))))))) (d_toTape (by unfold bgT; rw [if_neg (by rw [hE]; omega)]) (d_aggU (.cons d_nil (.cons (d_int rfl) .nil)))) (d_int hE.symm)
   ·
    have c2 := Classical.not_not.1 h4
    have hbd := shape_bd c2.1
    refine au 5 ?_
    refine run_op (loc_call (wvalid_spec _ _) rfl) rfl ?_
    refine au 15 ?_
    refine run_cond rfl (fun h5 => ?_) (fun h5 => ?_)
    ·
     have c3 : ¬ okW hd.count rows ∨ hd.width < 1 ∨ hd.width > 64 := by rcases h5 with (h | h) | h; (· exact .inl h); (· exact .inr (.inl h)); (· exact .inr (.inr h))
     refine au 8 ?_
     have hE : bgE rd sc hd rows t = 41 := by unfold bgE; rw [if_neg c1, if_neg (Classical.not_not.2 c2), if_pos c3]
     refine run_retGP Tryz.func75 rfl (.cellN rfl (.there (.here)) (by rfl) (.cellN rfl (.here) (by rfl) (.tmp rfl (.nil)))) ?_ (fun _ _ h => inv_tail (inv_tail (h)))
     exact d_tup3 (d_toRdr (by unfold bgR; rw [if_neg (by rw [hE]; omega)]) (d_aggU (.cons (d_int rfl) (.cons (d_int rfl) (.cons (d_int rfl) (.cons (d_int rfl) (.cons (d_int rfl) (.cons (d_int rfl) (.cons (d_int rfl) (.cons (d_int rfl) (.cons (d_int rfl) (.cons (d_int rfl) (.cons d_nil (.cons d_nil (.cons d_nil (.cons d_nil (.cons (d_B Iff.rfl) .nil))))))))))))))))) (d_toTape (by unfold bgT; rw [if_neg (by rw [hE]; omega)]) (d_aggU (.cons d_nil (.cons (d_int rfl) .nil)))) (d_int hE.symm)
    ·
     have c3 : ¬ (¬ okW hd.count rows ∨ hd.width < 1 ∨ hd.width > 64) := fun h => h5 (by rcases h with h | h | h; (· exact .inl (.inl h)); (· exact .inl (.inr h)); (· exact .inr h))
     have hkw : okW hd.count rows := Classical.not_not.1 fun h => c3 (.inl h)
     have hk16 := hkw.2.1
     refine au 3 ?_
     refine run_addNone ?_
     refine dr_start _ (.one (σ := Nat) 12 (fun _ => True)) [⟨[(6, none)], [], none⟩,
         ⟨[(7, none)], [], none⟩,
         ⟨[(50, some (1, false))], [1], none⟩,
         ⟨[(7, none)], [], none⟩,
         ⟨[(52, some (3, false))], [3], none⟩,
         ⟨[(3, none)], [], none⟩,
         ⟨[(9, none)], [], none⟩,
         ⟨[(49, some (0, false)), (51, some (2, false)), (53, some (4, false)), (54, some (5, false)), (55, some (6, false))], [0, 1, 2, 3, 4, 5, 6], none⟩,
         ⟨[(56, some (7, false))], [0, 1, 2, 3, 4, 5, 6, 7], none⟩,
         ⟨[(48, some (8, false))], [0, 1, 2, 3, 4, 5, 6, 7, 8], none⟩,
         ⟨[(48, some (8, false))], [0, 1, 2, 3, 4, 5, 6, 7, 8], none⟩,
         ⟨[(48, some (8, false))], [0, 1, 2, 3, 4, 5, 6, 7, 8], none⟩,
         ⟨[], [], some (0, 0, true)⟩,
         ⟨[(57, some (9, false))], [0, 1, 2, 3, 4, 5, 6, 7, 8, 9, 12], none⟩,
         ⟨[(14, some (12, false)), (58, some (10, false))], [0, 1, 2, 3, 4, 5, 6, 7, 8, 9, 10, 12, 13], some (0, 1, true)⟩,
         ⟨[(59, some (11, false))], [0, 1, 2, 3, 4, 5, 6, 7, 8, 9, 10, 11, 12, 13, 14], none⟩] [_, _, _] _ rfl rfl ?_
     refine da 2 ?_
     refine dq_pure rfl (fun s => .op rfl (.nil)) (fun s hs _ => loc_call (fieldOf_spec _) rfl) (by exact .cons (.inr fun _ _ _ => rfl) (.nil)) ?_
     refine da 4 ?_
     refine dq_pure rfl (fun s => .op rfl (.op rfl (.op rfl (.op rfl (.op rfl (.nil)))))) (fun s hs _ => loc_call (wqueries_spec _ _ _ _ _) rfl) (by exact .cons (.inr fun _ _ _ => rfl) (.nil)) ?_
     refine da 4 ?_
     refine dq_choose id (fun _ t => t) rfl (fun _ _ => ⟨rfl, id, trivial⟩) (fun s => .nil) rfl rfl (fun s hs => locM_new (loc_allocOwn (by simp))) (by exact .cons (.inl rfl) (.nil)) (fun _ _ => rfl) ?_
     refine da 1 ?_
     refine dq_write0 rfl (fun s => .op rfl (.op rfl (.nil))) rfl rfl (fun s hs => loc_storeN (ho := (by show OneAll [_, _]; infer_instance)) rfl rfl rfl) (by exact .cons (.inl rfl) (.nil)) ?_
     refine da 1 ?_
     refine dq_end (rs := [_, _, _]) 0 rfl (fun _ => rfl) (.cons rfl (.nil)) rfl (fun _ => rfl) (fun b6 _ => ?_)
     dsimp only [outG, outM, List.map, List.set, id]
     refine au 6 ?_
     refine run_cond rfl (fun h7 => ?_) (fun h7 => ?_)
     ·
      have c4 := h7
      refine au 9 ?_
      have hE : bgE rd sc hd rows t = wqE sc hd.p hd.count rows t := by unfold bgE; rw [if_neg c1, if_neg (Classical.not_not.2 c2), if_neg c3]
      refine run_retGP Tryz.func75 rfl (.cellN rfl (.there (.there (.here))) (by rfl) (.cellN rfl (.there (.here)) (by rfl) (.tmp rfl (.nil)))) ?_ (fun _ _ h => inv_tail (inv_tail (inv_tail (h))))
      exact d_tup3 (d_toRdr (by unfold bgR; rw [if_neg (by rw [hE]; exact c4)]) (d_aggU (.cons (d_int rfl) (.cons (d_int rfl) (.cons (d_int rfl) (.cons (d_int rfl) (.cons (d_int rfl) (.cons (d_int rfl) (.cons (d_int rfl) (.cons (d_int rfl) (.cons (d_int rfl) (.cons (d_int rfl) (.cons d_nil (.cons d_nil (.cons d_nil (.cons d_nil (.cons (d_B Iff.rfl) .nil))))))))))))))))) (d_toTape (by unfold bgT; rw [if_neg (by rw [hE]; exact c4)]) (d_aggU (.cons d_nil (.cons (d_int rfl) .nil)))) (d_int hE.symm)
     ·
      have c4 := Classical.not_not.1 h7
      refine au 2 ?_
      refine run_addNone ?_
      refine dr_start _ (.one (σ := Nat) 7 (fun _ => True)) [⟨[(0, none)], [], none⟩,
          ⟨[(6, none)], [], none⟩,
          ⟨[(7, none)], [], none⟩,
          ⟨[(3, none)], [], none⟩,
          ⟨[(68, some (3, false))], [3], none⟩,
          ⟨[(13, none)], [], none⟩,
          ⟨[(65, some (0, false)), (66, some (1, false)), (67, some (2, false)), (69, some (4, false)), (70, some (5, false))], [0, 1, 2, 3, 4, 5], none⟩,
          ⟨[], [], some (0, 0, true)⟩,
          ⟨[(16, some (7, false)), (71, some (6, false))], [0, 1, 2, 3, 4, 5, 6, 7], some (0, 1, true)⟩] [_, _, _, _] _ rfl rfl ?_
      refine da 4 ?_
      refine dq_pure rfl (fun s => .op rfl (.nil)) (fun s hs _ => loc_call (cloneI_spec _ (by omega)) rfl) (by exact .cons (.inr fun _ _ _ => rfl) (.nil)) ?_
      refine da 2 ?_
      refine dq_choose id (fun _ t => t) rfl (fun _ _ => ⟨rfl, id, trivial⟩) (fun s => .nil) rfl rfl (fun s hs => locM_new (loc_allocOwn (by simp))) (by exact .cons (.inl rfl) (.nil)) (fun _ _ => rfl) ?_
      refine dq_write0 rfl (fun s => .op rfl (.op rfl (.nil))) rfl rfl (fun s hs => loc_storeN (ho := (by show OneAll [_, _, _, _, _, _, _, _, _, _, _, _, _, _, _]; infer_instance)) rfl rfl rfl) (by exact .cons (.inl rfl) (.nil)) ?_
      refine dq_end (rs := [_, _, _, _]) 0 rfl (fun _ => rfl) (.cons rfl (.nil)) rfl (fun _ => rfl) (fun b8 _ => ?_)
      dsimp only [outG, outM, List.map, List.set, id]
      refine au 4 ?_
      first | refine runL_fact (s := 72) rfl (fun _ _ h => dSl_len h) (fun hlen9 => ?_) | skip
      refine au 4 ?_
      refine run_rowNil 137 1 fAs ?_
      refine run_rowNil 44 1 fR ?_
      refine run_cellsUp (kk := 12) (b := b8) (dVal (.slice none 0 0)) (dSlV (.slice none 0 0)) (.there (.there (.here))) rfl (fun J u h => ⟨h, _, _, _, h⟩) ?_
      refine run_cellsUp (kk := 13) (b := b8) (dVal (.slice none 0 0)) (dSlV (.slice none 0 0)) (.there (.there (.here))) rfl (fun J u h => ⟨h, _, _, _, h⟩) ?_
      refine run_front (.here) ?_
      refine run_front (.there (.here)) ?_
      refine run_front (.there (.there (.here))) ?_
      refine run_loopF (σ := Value × Value × Nat) (ks := [6, 10, 11, 14, 16, 73]) (.cons rfl (.cons rfl (.cons rfl (.cons rfl (.cons rfl (.cons rfl (.nil))))))) (fun q => [(74, dInt .i64 (q.2.2 : Nat))]) (fun q => [rCells b8 76 [dInt .i64 rd, dInt .i64 sc.kind, dInt .i64 sc.servers, dInt .i64 sc.degree, dInt .i64 sc.group, dInt .i64 hd.number, dInt .i64 hd.p, dInt .i64 hd.count, dInt .i64 hd.width, dInt .i64 hd.root, dInts rows, dQs (wqL sc hd.p hd.count rows t), dSlV q.1, dSlV q.2.1, dB False], rRow q.1 137 1 fAs (List.replicate q.2.2 (List.replicate sc.servers.toNat ⟨False, []⟩)), rRow q.2.1 44 1 fR (List.replicate q.2.2 (List.replicate sc.servers.toNat 0))]) (fun q => q.2.2 ≤ rows.length) (fun q => rows.length - q.2.2) ((.slice none 0 0, .slice none 0 0, 0)) (Nat.zero_le _) (.cons rfl (by first | exact fun _ _ h => h | exact d_int (by omega) | exact d_int (by simp) | exact d_intN (by omega) | exact d_any) .nil) (rfl) ?_
      intro q hq ih10
      have hla : (List.replicate q.2.2 (List.replicate sc.servers.toNat (⟨False, []⟩ : Ans))).length = q.2.2 := List.length_replicate
      have hlm : (List.replicate q.2.2 (List.replicate sc.servers.toNat (0 : Int))).length = q.2.2 := List.length_replicate
      refine au 5 ?_
      refine run_cond rfl (fun h11 => ?_) (fun h11 => ?_)
      ·
       refine au 4 ?_
       refine dr_start _ (.one (σ := Value) 6 (fun _ => True)) [⟨[(16, none)], [], none⟩,
           ⟨[(76, some (0, false))], [0], some (0, 0, false)⟩,
           ⟨[(6, none)], [], none⟩,
           ⟨[(78, some (2, false))], [2], none⟩,
           ⟨[(79, some (3, false)), (79, some (3, false))], [2, 3], none⟩,
           ⟨[(80, some (4, false))], [2, 3, 4], none⟩,
           ⟨[(77, some (1, false)), (81, some (5, false))], [0, 1, 2, 3, 4, 5], some (1, 0, true)⟩,
           ⟨[(16, none)], [0, 1, 2, 3, 4, 5, 6], none⟩,
           ⟨[(83, some (7, false)), (82, some (6, false))], [0, 1, 2, 3, 4, 5, 6, 7], some (0, 0, true)⟩] [_, _, _, _, _, _] _ rfl rfl ?_
       refine da 1 ?_
       first | refine dq_read rfl (fun s => .op rfl (.nil)) rfl rfl (fun s hs _ hm => LocP.upV (loc_loadOwn1 rfl hm (by rfl))) (by exact .cons (.inr fun _ _ _ => rfl) (.nil)) ?_ | refine dq_read rfl (fun s => .op rfl (.nil)) rfl rfl (fun s hs _ hm => loc_loadOwn1 rfl hm (by rfl)) (by exact .cons (.inr fun _ _ _ => rfl) (.nil)) ?_
       refine da 2 ?_
       refine dq_pure rfl (fun s => .op rfl (.op rfl (.nil))) (fun s hs _ => loc_makeFrzN (m := sc.servers.toNat) rfl rfl (by omega) (by omega) (by omega) rfl (by decide) (by simp) cAns ⟨False, []⟩ (fun J vs h => ansUp h) rfl) (by exact .cons (.inr fun _ _ _ => rfl) (.nil)) ?_
       refine dq_pure rfl (fun s => .op rfl (.nil)) (fun s hs _ => loc_buildSlice rfl rfl (.one rfl (.nil)) rfl rfl) (by exact .cons (.inr fun _ _ _ => rfl) (.nil)) ?_
       refine dq_choose id (fun _ t => t) rfl (fun _ _ => ⟨rfl, id, trivial⟩) (fun s => .op rfl (.op rfl (.nil))) rfl rfl (fun s hs => LocM.rowV (loc_append1 _ rfl rfl rfl rfl (by first | omega | (simp [lenMax]; omega) | (simp [lenMax]; done) | assumption) (by first | omega | (simp [lenMax]; omega) | (simp [lenMax]; done) | assumption))) (by exact .cons (.inl rfl) (.nil)) (fun _ _ => rfl) ?_
       refine da 1 ?_
       refine dq_write0 rfl (fun s => .op rfl (.op rfl (.nil))) rfl rfl (fun s hs => loc_store1 rfl rfl rfl) (by exact .cons (.inl rfl) (.nil)) ?_
       refine dq_end (rs := [_, _, _, _, _, _]) (.bool true) rfl (fun _ => rfl) (.cons rfl (.nil)) rfl (fun _ => rfl) (fun v12 _ => ?_)
       dsimp only [outG, outM, List.map, List.set, id]
       refine dr_start _ (.one (σ := Value) 6 (fun _ => True)) [⟨[(16, none)], [], none⟩,
           ⟨[(84, some (0, false))], [0], some (0, 0, false)⟩,
           ⟨[(6, none)], [], none⟩,
           ⟨[(86, some (2, false))], [2], none⟩,
           ⟨[(87, some (3, false)), (87, some (3, false))], [2, 3], none⟩,
           ⟨[(88, some (4, false))], [2, 3, 4], none⟩,
           ⟨[(85, some (1, false)), (89, some (5, false))], [0, 1, 2, 3, 4, 5], some (2, 0, true)⟩,
           ⟨[(16, none)], [0, 1, 2, 3, 4, 5, 6], none⟩,
           ⟨[(91, some (7, false)), (90, some (6, false))], [0, 1, 2, 3, 4, 5, 6, 7], some (0, 0, true)⟩] [_, _, _, _, _, _] _ rfl rfl ?_
       refine da 1 ?_
       first | refine dq_read rfl (fun s => .op rfl (.nil)) rfl rfl (fun s hs _ hm => LocP.upV (loc_loadOwn1 rfl hm (by rfl))) (by exact .cons (.inr fun _ _ _ => rfl) (.nil)) ?_ | refine dq_read rfl (fun s => .op rfl (.nil)) rfl rfl (fun s hs _ hm => loc_loadOwn1 rfl hm (by rfl)) (by exact .cons (.inr fun _ _ _ => rfl) (.nil)) ?_
       refine da 2 ?_
       refine dq_pure rfl (fun s => .op rfl (.op rfl (.nil))) (fun s hs _ => loc_makeFrz rfl rfl (by omega) (by omega) (fun x => dInt .i64 x) 0 rfl (by simp)) (by exact .cons (.inr fun _ _ _ => rfl) (.nil)) ?_
       refine dq_pure rfl (fun s => .op rfl (.nil)) (fun s hs _ => loc_buildSlice rfl rfl (.one rfl (.nil)) rfl rfl) (by exact .cons (.inr fun _ _ _ => rfl) (.nil)) ?_
       refine dq_choose id (fun _ t => t) rfl (fun _ _ => ⟨rfl, id, trivial⟩) (fun s => .op rfl (.op rfl (.nil))) rfl rfl (fun s hs => LocM.rowV (loc_append1 _ rfl rfl rfl rfl (by first | omega | (simp [lenMax]; omega) | (simp [lenMax]; done) | assumption) (by first | omega | (simp [lenMax]; omega) | (simp [lenMax]; done) | assumption))) (by exact .cons (.inl rfl) (.nil)) (fun _ _ => rfl) ?_
       refine da 1 ?_
       refine dq_write0 rfl (fun s => .op rfl (.op rfl (.nil))) rfl rfl (fun s hs => loc_store1 rfl rfl rfl) (by exact .cons (.inl rfl) (.nil)) ?_
       refine dq_end (rs := [_, _, _, _, _, _]) (.bool true) rfl (fun _ => rfl) (.cons rfl (.nil)) rfl (fun _ => rfl) (fun v13 _ => ?_)
       dsimp only [outG, outM, List.map, List.set, id]
       refine au 5 ?_
       exact run_againF ih10 ((v12, v13, q.2.2 + 1)) (by simp only; omega) (by simp only; omega) (.cons rfl (by first | exact fun _ _ h => h | exact d_int (by omega) | exact d_int (by simp) | exact d_intN (by omega) | exact d_any) .nil) (.cons rfl (fun _ _ x => x) (.cons rfl (fun _ _ x => x) (.cons rfl (fun _ _ x => x) (.cons rfl (fun _ _ x => x) (.cons rfl (fun _ _ x => x) (.cons rfl (fun _ _ x => x) (.nil))))))) (by simp only [appR]; rw [List.replicate_succ', List.replicate_succ'])
      ·
       refine au 2 ?_
       first | refine run_freezeRowCellV (kk := 12) (.there (.here)) (.here) rfl ?_ | refine run_freezeRowCell (kk := 12) (.there (.here)) (.here) rfl ?_
       first | refine run_freezeRowCellV (kk := 13) (.there (.here)) (.here) rfl ?_ | refine run_freezeRowCell (kk := 13) (.there (.here)) (.here) rfl ?_
       refine dr_start _ (.none) [⟨[(16, none)], [], some (0, 0, false)⟩,
           ⟨[(14, none)], [], some (1, 0, false)⟩,
           ⟨[(10, none), (93, some (0, false))], [0], some (3, 0, true)⟩,
           ⟨[(11, none), (94, some (1, false))], [0, 1, 2], some (2, 0, true)⟩,
           ⟨[], [0, 1, 2, 3], none⟩] [_, _, _, _] _ rfl rfl ?_
       refine da 2 ?_
       refine dq_write0 rfl (fun s => .g rfl (.op rfl (.nil))) rfl rfl (fun s hs => loc_storeN (ho := (by show OneAll [_, _, _, _, _, _, _, _, _, _, _, _, _, _, _]; infer_instance)) rfl rfl rfl) (by exact .nil) ?_
       refine dq_write0 rfl (fun s => .g rfl (.op rfl (.nil))) rfl rfl (fun s hs => loc_storeN (ho := (by show OneAll [_, _]; infer_instance)) rfl rfl rfl) (by exact .nil) ?_
       refine da 1 ?_
       refine dq_end (rs := [_, _, _, _]) () rfl (fun _ => rfl) (.nil) rfl (fun _ => rfl) (fun _ _ => ?_)
       dsimp only [outG, outM, List.map, List.set, id]
       have hE : bgE rd sc hd rows t = 0 := by unfold bgE; rw [if_neg c1, if_neg (Classical.not_not.2 c2), if_neg c3]; exact c4
       refine run_retGP Tryz.func75 rfl (.cellN rfl (.there (.there (.there (.here)))) (by rfl) (.cellN rfl (.there (.there (.here))) (by rfl) (.tmp rfl (.nil)))) ?_ (fun _ _ h => inv_tail (inv_tail (inv_tail (inv_tail (h)))))
       exact d_tup3 (d_toRdr (t' := ⟨rd, sc, hd, rows, wqL sc hd.p hd.count rows t, List.replicate q.2.2 (List.replicate sc.servers.toNat ⟨False, []⟩), List.replicate q.2.2 (List.replicate sc.servers.toNat 0), False⟩) (by unfold bgR; rw [if_pos hE, show rows.length = q.2.2 by omega]) (fun _ _ h => h)) (d_toTape (by unfold bgT; rw [if_pos hE]) (fun _ _ h => h)) (d_int hE.symm)
theorem notes_spec (r : Rdr) (hr : r.queries.length ≤ 1000 ∧ ∀ q ∈ r.queries, q.length ≤ 1000 ∧ ∀ x ∈ q, x.length ≤ 100000) : SpecP Tryz.prog 76 [dRdr r] (dNts (notesN r.read r.head.number r.queries r.queries.length)) := by
  refine specP_of_body Tryz.func76 rfl rfl (fun I M => ?_)
  refine au 14 ?_
  first | refine runL_fact (s := 9) rfl (fun _ _ h => dSl_len h) (fun hlen1 => ?_) | skip
  refine au 4 ?_
  refine run_rowNil 46 8 cNte ?_
  refine run_loopF (σ := Value × Nat) (ks := [1, 9, 10]) (.cons rfl (.cons rfl (.cons rfl (.nil)))) (fun q => [(3, dVal q.1), (11, dInt .i64 (q.2 : Nat))]) (fun q => [rRow q.1 46 8 cNte (notesN r.read r.head.number r.queries q.2)]) (fun q => q.2 ≤ r.queries.length) (fun q => r.queries.length - q.2) ((.slice none 0 0, 0)) (Nat.zero_le _) (.cons rfl (by first | exact fun _ _ h => h | exact d_int (by omega) | exact d_int (by simp) | exact d_intN (by omega) | exact d_any) (.cons rfl (by first | exact fun _ _ h => h | exact d_int (by omega) | exact d_int (by simp) | exact d_intN (by omega) | exact d_any) .nil)) (rfl) ?_
  intro q hq ih2
  have hnl := notesN_le (rd := r.read) (ver := r.head.number) (fun x hx => (hr.2 x hx).1) (k := q.2) hq
  refine au 5 ?_
  refine run_cond rfl (fun h3 => ?_) (fun h3 => ?_)
  ·
   refine au 14 ?_
   first | refine runL_fact (s := 16) rfl (fun _ _ h => dSl_len h) (fun hlen4 => ?_) | skip
   refine au 4 ?_
   have hqm := hr.2 _ (getD_mem (xs := r.queries) (k := q.2) (by omega))
   have hqm1 := hqm.1
   refine run_loopF (σ := Value × Nat) (ks := [1, 4, 9, 10, 11, 16, 17]) (.cons rfl (.cons rfl (.cons rfl (.cons rfl (.cons rfl (.cons rfl (.cons rfl (.nil)))))))) (fun u => [(3, dVal u.1), (18, dInt .i64 (u.2 : Nat))]) (fun u => [rRow u.1 46 8 cNte (notesN r.read r.head.number r.queries q.2 ++ probeN r.read r.head.number q.2 (r.queries[q.2]?.getD default) u.2)]) (fun u => u.2 ≤ (r.queries[q.2]?.getD default).length) (fun u => (r.queries[q.2]?.getD default).length - u.2) ((q.1, 0)) (Nat.zero_le _) (.cons rfl (by first | exact fun _ _ h => h | exact d_int (by omega) | exact d_int (by simp) | exact d_intN (by omega) | exact d_any) (.cons rfl (by first | exact fun _ _ h => h | exact d_int (by omega) | exact d_int (by simp) | exact d_intN (by omega) | exact d_any) .nil)) (by simp only [appR]; rw [show probeN r.read r.head.number q.2 (r.queries[q.2]?.getD default) 0 = [] from rfl, List.append_nil]) ?_
   intro u hu ih5
   have hpl := probeN_len r.read r.head.number q.2 (r.queries[q.2]?.getD default) u.2
   have hal : (notesN r.read r.head.number r.queries q.2 ++ probeN r.read r.head.number q.2 (r.queries[q.2]?.getD default) u.2).length ≤ 2000000 := by rw [List.length_append]; omega
   refine au 5 ?_
   refine run_cond rfl (fun h6 => ?_) (fun h6 => ?_)
   ·
    have hxl := hqm.2 _ (getD_mem (xs := r.queries[q.2]?.getD default) (k := u.2) (by omega))
    refine au 11 ?_
    refine dr_start _ (.one (σ := Value) 13 (fun _ => True)) [⟨[(3, none)], [], none⟩,
        ⟨[(1, none)], [], none⟩,
        ⟨[(24, some (1, false))], [1], none⟩,
        ⟨[(4, none)], [], none⟩,
        ⟨[(6, none)], [], none⟩,
        ⟨[(27, some (4, false))], [4], none⟩,
        ⟨[(1, none)], [], none⟩,
        ⟨[(29, some (6, false))], [6], none⟩,
        ⟨[(30, some (7, false))], [6, 7], none⟩,
        ⟨[(7, none)], [], none⟩,
        ⟨[(32, some (9, false))], [9], none⟩,
        ⟨[(25, some (2, false)), (26, some (3, false)), (28, some (5, false)), (31, some (8, false)), (33, some (10, false))], [1, 2, 3, 4, 5, 6, 7, 8, 9, 10], none⟩,
        ⟨[(34, some (11, false))], [1, 2, 3, 4, 5, 6, 7, 8, 9, 10, 11], none⟩,
        ⟨[(23, some (0, false)), (35, some (12, false))], [0, 1, 2, 3, 4, 5, 6, 7, 8, 9, 10, 11, 12], some (0, 0, true)⟩,
        ⟨[(36, some (13, false))], [0, 1, 2, 3, 4, 5, 6, 7, 8, 9, 10, 11, 12, 13], none⟩] [_] _ rfl rfl ?_
    refine da 10 ?_
    refine dq_pure rfl (fun s => .op rfl (.nil)) (fun s hs _ => loc_call (cloneI_spec _ (by omega)) rfl) (by exact .cons (.inr fun _ _ _ => rfl) (.nil)) ?_
    refine dq_pure rfl (fun s => .op rfl (.op rfl (.op rfl (.op rfl (.op rfl (.nil)))))) (fun s hs _ => LocP.imp (d' := dAgg (cNte ⟨1, r.read, q.2, (u.2 : Int) + 1, r.head.number, (r.queries[q.2]?.getD default)[u.2]?.getD default, [], 0⟩)) (loc_build (.one rfl rfl rfl (.one rfl rfl rfl (.one rfl rfl rfl (.one rfl rfl rfl (.one rfl rfl rfl (.one rfl rfl rfl (.nil)))))))) (by exact d_aggU (.cons (fun _ _ h => h) (.cons (fun _ _ h => h) (.cons (fun _ _ h => h) (.cons (fun _ _ h => h) (.cons (fun _ _ h => h) (.cons (fun _ _ h => h) (.cons d_nil (.cons (fun _ _ h => h) .nil)))))))))) (by exact .cons (.inr fun _ _ _ => rfl) (.nil)) ?_
    refine dq_pure rfl (fun s => .op rfl (.nil)) (fun s hs _ => loc_buildSlice rfl rfl (.agg rfl (.nil)) rfl rfl) (by exact .cons (.inr fun _ _ _ => rfl) (.nil)) ?_
    refine dq_choose id (fun _ t => t) rfl (fun _ _ => ⟨rfl, id, trivial⟩) (fun s => .op rfl (.op rfl (.nil))) rfl rfl (fun s hs => loc_append1 _ rfl rfl rfl rfl (by first | omega | (simp [lenMax]; omega) | (simp [lenMax]; done) | assumption) (by first | omega | (simp [lenMax]; omega) | (simp [lenMax]; done) | assumption)) (by exact .cons (.inl rfl) (.nil)) (fun _ _ => rfl) ?_
    refine da 1 ?_
    refine dq_end (rs := [_]) (.bool true) rfl (fun _ => rfl) (.cons rfl (.nil)) rfl (fun _ => rfl) (fun v7 _ => ?_)
    dsimp only [outG, outM, List.map, List.set, id]
    refine au 5 ?_
    exact run_againF ih5 ((v7, u.2 + 1)) (by simp only; omega) (by simp only; omega) (.cons rfl (by first | exact fun _ _ h => h | exact d_int (by omega) | exact d_int (by simp) | exact d_intN (by omega) | exact d_any) (.cons rfl (by first | exact fun _ _ h => h | exact d_int (by omega) | exact d_int (by simp) | exact d_intN (by omega) | exact d_any) .nil)) (.cons rfl (fun _ _ x => x) (.cons rfl (fun _ _ x => x) (.cons rfl (fun _ _ x => x) (.cons rfl (fun _ _ x => x) (.cons rfl (fun _ _ x => x) (.cons rfl (fun _ _ x => x) (.cons rfl (fun _ _ x => x) (.nil)))))))) (by simp only [appR]; rw [probeN_snoc, ← List.append_assoc])
   ·
    refine au 6 ?_
    exact run_againF ih2 ((u.1, q.2 + 1)) (by simp only; omega) (by simp only; omega) (.cons rfl (by first | exact fun _ _ h => h | exact d_int (by omega) | exact d_int (by simp) | exact d_intN (by omega) | exact d_any) (.cons rfl (by first | exact fun _ _ h => h | exact d_int (by omega) | exact d_int (by simp) | exact d_intN (by omega) | exact d_any) .nil)) (.cons rfl (fun _ _ x => x) (.cons rfl (fun _ _ x => x) (.cons rfl (fun _ _ x => x) (.nil)))) (by simp only [appR]; rw [notesN_snoc, show u.2 = (r.queries[q.2]?.getD default).length by omega])
  ·
   refine au 2 ?_
   refine run_freezeRow (s := 3) rfl (.here) ?_
   refine au 4 ?_
   refine run_retP Tryz.func76 rfl rfl ?_
   exact d_sl (by rw [show q.2 = r.queries.length by omega])
theorem silent_spec (r : Rdr) (k : Int) : SpecP Tryz.prog 77 [dRdr r, dInt .i64 k] (dInts (silR r k)) := by
  refine specP_of_body Tryz.func77 rfl rfl (fun I M => ?_)
  refine au 23 ?_
  refine run_cond rfl (fun h1 => ?_) (fun h1 => ?_)
  ·
   have c1 := h1
   refine au 5 ?_
   refine run_retP Tryz.func77 rfl rfl ?_
   exact d_toInts (by unfold silR; rw [if_pos c1]) d_nil
  ·
   have c1 := h1
   refine au 9 ?_
   first | refine runL_fact (s := 22) rfl (fun _ _ h => dSl_len h) (fun hlen2 => ?_) | skip
   refine au 4 ?_
   refine run_rowNil 3 1 fI ?_
   refine run_loopF (σ := Value × Nat) (ks := [22, 23]) (.cons rfl (.cons rfl (.nil))) (fun q => [(5, dVal q.1), (24, dInt .i64 (q.2 : Nat))]) (fun q => [rRow q.1 3 1 fI (silN (r.answers[k.toNat]?.getD default) q.2)]) (fun q => q.2 ≤ (r.answers[k.toNat]?.getD default).length) (fun q => (r.answers[k.toNat]?.getD default).length - q.2) ((.slice none 0 0, 0)) (Nat.zero_le _) (.cons rfl (by first | exact fun _ _ h => h | exact d_int (by omega) | exact d_int (by simp) | exact d_intN (by omega) | exact d_any) (.cons rfl (by first | exact fun _ _ h => h | exact d_int (by omega) | exact d_int (by simp) | exact d_intN (by omega) | exact d_any) .nil)) (rfl) ?_
   intro q hq ih3
   have hsl := silN_len (r.answers[k.toNat]?.getD default) q.2
   refine au 5 ?_
   refine run_cond rfl (fun h4 => ?_) (fun h4 => ?_)
   ·
    refine au 2 ?_
    refine run_joinF (σ := Value) (ks := [22, 23, 24]) _ (.cons rfl (.cons rfl (.cons rfl (.nil)))) (fun u => [(5, dVal u)]) (fun u => [rRow u 3 1 fI (silN (r.answers[k.toNat]?.getD default) (q.2 + 1))]) (fun u => True) ⟨[_], rfl⟩ (fun j5 => ?_) ?_
    ·
     refine au 6 ?_
     refine run_new (loc_allocOwn (by simp)) rfl (fun b6 _ => ?_)
     refine au 9 ?_
     refine run_cond rfl (fun h7 => ?_) (fun h7 => ?_)
     ·
      have c4 := h7
      refine au 4 ?_
      refine run_op (loc_buildSlice rfl rfl (.one rfl (.nil)) rfl rfl) rfl ?_
      refine run_append1 rfl (.there (.here)) rfl (by rfl) (by rfl) (by first | omega | (simp [lenMax]; omega) | (simp [lenMax]; done) | assumption) (by first | omega | (simp [lenMax]; omega) | (simp [lenMax]; done) | assumption) rfl (fun v8 => ?_)
      refine au 3 ?_
      refine run_drop (.cons _ (.refl _)) ?_
      exact run_atF j5 (v8) (trivial) (by simp only [appR]; rw [silN_snoc, if_neg c4]) (.cons rfl (by first | exact fun _ _ h => h | exact d_int (by omega) | exact d_int (by simp) | exact d_intN (by omega) | exact d_any) .nil) (.cons rfl (fun _ _ x => x) (.cons rfl (fun _ _ x => x) (.cons rfl (fun _ _ x => x) (.nil))))
     ·
      have c4 := Classical.not_not.1 h7
      refine au 2 ?_
      refine run_drop (.cons _ (.refl _)) ?_
      exact run_atF j5 (q.1) (trivial) (by simp only [appR]; rw [silN_snoc, if_pos c4]) (.cons rfl (by first | exact fun _ _ h => h | exact d_int (by omega) | exact d_int (by simp) | exact d_intN (by omega) | exact d_any) .nil) (.cons rfl (fun _ _ x => x) (.cons rfl (fun _ _ x => x) (.cons rfl (fun _ _ x => x) (.nil))))
    intro u hu
    refine au 4 ?_
    exact run_againF ih3 ((u, q.2 + 1)) (by simp only; omega) (by simp only; omega) (.cons rfl (by first | exact fun _ _ h => h | exact d_int (by omega) | exact d_int (by simp) | exact d_intN (by omega) | exact d_any) (.cons rfl (by first | exact fun _ _ h => h | exact d_int (by omega) | exact d_int (by simp) | exact d_intN (by omega) | exact d_any) .nil)) (.cons rfl (fun _ _ x => x) (.cons rfl (fun _ _ x => x) (.nil))) (rfl)
   ·
    refine au 2 ?_
    refine run_freezeRow (s := 5) rfl (.here) ?_
    refine au 4 ?_
    refine run_retP Tryz.func77 rfl rfl ?_
    exact d_toInts (by unfold silR; rw [if_neg c1, show (r.answers[k.toNat]?.getD default).length = q.2 by omega]) (fun _ _ h => h)
end Go.Q

namespace Go.Q
open Classical
theorem units_bd {s : Schm} {n : Int} (hs : shapeS s) (hn : 1 ≤ n ∧ n ≤ 1024) : 0 ≤ unitsS s n ∧ unitsS s n ≤ 1024 := by
 rw [units_ok hs hn]
 split
 ·have := grp_bd hn (g := s.group) (by unfold shapeS at hs; omega); omega
 ·omega
theorem bg_ok {s : Schm} {hd : Hd} {rows : List Int} {t : Tape} {rd : Int} (hv : validS s hd.p) (hrd : 0 ≤ rd) (hw : okW hd.count rows) (hwd : 1 ≤ hd.width ∧ hd.width ≤ 64) (hk : okTape t) (hd0 : drawE t hd.p ((rows.length : Nat) * limN s hd.count) = 0) :
  bgE rd s hd rows t = 0 ∧ bgR rd s hd rows t = ⟨rd, s, hd, rows, qsL s hd.p hd.count rows t, List.replicate rows.length (List.replicate s.servers.toNat ⟨False, []⟩), List.replicate rows.length (List.replicate s.servers.toNat 0), False⟩ ∧ bgT rd s hd rows t = qsT s hd.p hd.count rows t := by
 obtain ⟨e1, e2, e3⟩ := wq_ok hv hw hk hd0
 have e : bgE rd s hd rows t = 0 := by unfold bgE; rw [if_neg (by omega), if_neg (Classical.not_not.2 hv), if_neg (by rintro (h | h | h); (· exact h hw); (· omega); (· omega))]; exact e1
 exact ⟨e, by unfold bgR; rw [if_pos e, e2], by unfold bgT; rw [if_pos e, e3]⟩
theorem notes_facts {rd ver S U : Int} {qs : List (List (List Int))} (hS : 1 ≤ S) (hq : ∀ q ∈ qs, (q.length : Int) = S ∧ ∀ x ∈ q, (x.length : Int) = U) :
  ((notesN rd ver qs qs.length).length : Int) = (qs.length : Int) * S ∧ ∀ i : Nat, i < (notesN rd ver qs qs.length).length →
   ((notesN rd ver qs qs.length)[i]?.getD default).kind = 1 ∧ ((notesN rd ver qs qs.length)[i]?.getD default).read = rd ∧ ((notesN rd ver qs qs.length)[i]?.getD default).probe = (i : Int) / S ∧ ((notesN rd ver qs qs.length)[i]?.getD default).server = (i : Int) % S + 1 ∧
   ((notesN rd ver qs qs.length)[i]?.getD default).version = ver ∧ (((notesN rd ver qs qs.length)[i]?.getD default).query.length : Int) = U ∧ ((notesN rd ver qs qs.length)[i]?.getD default).values = [] := by
 obtain ⟨m, rfl⟩ : ∃ m : Nat, S = m := ⟨S.toNat, by omega⟩
 have hm : ∀ q ∈ qs, q.length = m := fun q h => by have := (hq q h).1; omega
 have hl := notesN_len (rd := rd) (ver := ver) hm (Nat.le_refl qs.length)
 refine ⟨by rw [hl]; simp, fun i hi => ?_⟩
 rw [hl] at hi
 rw [notesN_get hm (by omega) (Nat.le_refl _) hi]
 have hd : i / m < qs.length := by rw [Nat.div_lt_iff_lt_mul (by omega)]; exact hi
 have hqm := getD_mem (xs := qs) hd
 have hr : i % m < (qs[i / m]?.getD default).length := by rw [hm _ hqm]; exact Nat.mod_lt _ (by omega)
 refine ⟨rfl, rfl, by simp, by simp, rfl, (hq _ hqm).2 _ (getD_mem hr), rfl⟩
theorem silN_all {m : Nat} : ∀ k, k ≤ m → (silN (List.replicate m ⟨False, []⟩) k).length = k
 | 0, _ => by simp [silN]
 | k + 1, h => by
  have e : ((List.replicate m (⟨False, []⟩ : Ans))[k]?.getD default).known = False := by rw [List.getElem?_replicate, if_pos (by omega)]; rfl
  rw [silN_snoc, if_neg (by rw [e]; exact id), List.length_append, silN_all k (by omega)]; rfl
end Go.Q

namespace Go.Q
open Go.Proofs
open Classical
def egR : Schm := ⟨1, 3, 0, 0⟩
def egH : Hd := ⟨4, 7, 2, 1, 0⟩
def egT : Tape := ⟨List.replicate (8 : Int).toNat 0, 0⟩
theorem egR_shape : shapeS egR := (die1 (n := 3) (by omega)).1
theorem egR_valid : validS egR 7 := ⟨egR_shape, okP_7, .inl rfl⟩
theorem egR_draw : okTape egT ∧ drawE egT 7 ((2 : Nat) * limN egR 2) = 0 := by
 have h1 : dieTp (List.replicate 8 7) egT := by
  refine ⟨rfl, rfl, fun j hj => ?_⟩
  rw [List.length_replicate] at hj
  have e : egT.numbers = List.replicate 8 0 := rfl
  rw [e, List.getElem?_replicate, if_pos hj, List.getElem?_replicate, if_pos hj]
  exact ⟨Int.le_refl _, by show (0 : Int) < 7; omega⟩
 exact die_draw (p := 7) (m := 8) okP_7 (by omega) h1
theorem egR_bg : bgE 3 egR egH [1, -1] egT = 0 ∧ (bgR 3 egR egH [1, -1] egT).read = 3 ∧ (bgR 3 egR egH [1, -1] egT).queries.length = 2 ∧ (∀ q ∈ (bgR 3 egR egH [1, -1] egT).queries, (q.length : Int) = 3 ∧ ∀ x ∈ q, (x.length : Int) = unitsS egR 2) ∧ (bgR 3 egR egH [1, -1] egT).answers = List.replicate 2 (List.replicate 3 ⟨False, []⟩) := by
 have hw : okW egH.count [1, -1] := ⟨by unfold egH; simp only; omega, by simp, fun r h => by simp only [List.mem_cons, List.not_mem_nil, or_false] at h; unfold egH; simp only; rcases h with rfl | rfl <;> omega⟩
 obtain ⟨b1, b2, b3⟩ := bg_ok (s := egR) (hd := egH) (rows := [1, -1]) (t := egT) (rd := 3) egR_valid (by omega) hw (by unfold egH; simp only; omega) egR_draw.1 egR_draw.2
 have hq := qs_ok (s := egR) (p := 7) (n := 2) (rows := [1, -1]) egR_valid (by omega) egR_draw.1 (fun r h => by simp only [List.mem_cons, List.not_mem_nil, or_false] at h; rcases h with rfl | rfl <;> omega) egR_draw.2
 rw [b2]
 refine ⟨b1, rfl, ?_, hq.2.2.2, rfl⟩
 show (qsL egR 7 2 [1, -1] egT).length = 2
 rw [qsL_len]; rfl
theorem sane32_spec  : SpecP Tryz.prog 33 [] (dB True) := by
 have hb := egR_bg
 have hn := notes_facts (rd := (bgR 3 egR egH [1, -1] egT).read) (ver := (bgR 3 egR egH [1, -1] egT).head.number) (S := 3) (U := unitsS egR 2) (by omega) hb.2.2.2.1
 have hu := units_bd (n := 2) egR_shape (by omega)
 have hq2 := hb.2.2.1
 have hr : (bgR 3 egR egH [1, -1] egT).queries.length ≤ 1000 ∧ ∀ q ∈ (bgR 3 egR egH [1, -1] egT).queries, q.length ≤ 1000 ∧ ∀ x ∈ q, x.length ≤ 100000 := ⟨by omega, fun q h => by
  obtain ⟨h5, h6⟩ := hb.2.2.2.1 q h
  exact ⟨by omega, fun x hx => by have := h6 x hx; omega⟩⟩
 have hl := hn.1
 have hl6 : (notesN (bgR 3 egR egH [1, -1] egT).read (bgR 3 egR egH [1, -1] egT).head.number (bgR 3 egR egH [1, -1] egT).queries (bgR 3 egR egH [1, -1] egT).queries.length).length = 6 := by rw [hq2] at hl; omega
 have h1 : ((notesN (bgR 3 egR egH [1, -1] egT).read (bgR 3 egR egH [1, -1] egT).head.number (bgR 3 egR egH [1, -1] egT).queries (bgR 3 egR egH [1, -1] egT).queries.length)[0]?.getD default).read = 3 := by rw [(hn.2 0 (by omega)).2.1]; exact hb.2.1
 have h2 : ((notesN (bgR 3 egR egH [1, -1] egT).read (bgR 3 egR egH [1, -1] egT).head.number (bgR 3 egR egH [1, -1] egT).queries (bgR 3 egR egH [1, -1] egT).queries.length)[5]?.getD default).server = 3 := by rw [(hn.2 5 (by omega)).2.2.2.1]; rfl
 have h3 : ((notesN (bgR 3 egR egH [1, -1] egT).read (bgR 3 egR egH [1, -1] egT).head.number (bgR 3 egR egH [1, -1] egT).queries (bgR 3 egR egH [1, -1] egT).queries.length)[5]?.getD default).probe = 1 := by rw [(hn.2 5 (by omega)).2.2.1]; rfl
 have h4 : ((silR (bgR 3 egR egH [1, -1] egT) 1).length : Int) = 3 := by
  have e : silR (bgR 3 egR egH [1, -1] egT) 1 = silN (List.replicate 3 ⟨False, []⟩) 3 := by unfold silR; rw [hb.2.2.2.2, if_neg (by simp)]; rfl
  rw [e, silN_all 3 (by omega)]; rfl
 refine specP_of_body Tryz.func33 rfl rfl (fun I M => ?_)
 refine au 7 ?_
 refine run_new (loc_allocOwn (by simp)) rfl (fun b1 _ => ?_)
 refine au 3 ?_
 refine run_addNone ?_
 refine run_addNone ?_
 refine dr_start _ (.two (τ1 := Nat) (τ2 := Nat) 10 11 (fun _ => True) (fun _ => True)) [⟨[], [], none⟩,
   ⟨[(1, none)], [], some (2, 0, false)⟩,
   ⟨[], [], none⟩,
   ⟨[], [], none⟩,
   ⟨[(11, some (3, false))], [3], none⟩,
   ⟨[(8, some (0, false)), (9, some (1, false)), (10, some (2, false)), (12, some (4, false))], [0, 1, 2, 3, 4], none⟩,
   ⟨[(13, some (5, false))], [0, 1, 2, 3, 4, 5], none⟩,
   ⟨[(7, some (6, false))], [0, 1, 2, 3, 4, 5, 6], none⟩,
   ⟨[(7, some (6, false))], [0, 1, 2, 3, 4, 5, 6], none⟩,
   ⟨[(7, some (6, false))], [0, 1, 2, 3, 4, 5, 6], none⟩,
   ⟨[], [], some (1, 0, true)⟩,
   ⟨[], [], some (0, 0, true)⟩,
   ⟨[(2, some (10, false)), (14, some (7, false))], [0, 1, 2, 3, 4, 5, 6, 7, 10, 11], some (1, 1, true)⟩,
   ⟨[(3, some (11, false)), (15, some (8, false))], [0, 1, 2, 3, 4, 5, 6, 7, 8, 10, 11, 12], some (0, 1, true)⟩,
   ⟨[(16, some (9, false))], [0, 1, 2, 3, 4, 5, 6, 7, 8, 9, 10, 11, 12, 13], none⟩] [_, _, _] _ rfl rfl ?_
 refine da 2 ?_
 refine dq_pure rfl (fun s => .nil) (fun s hs _ => LocP.imp (loc_buildSlice rfl rfl (.one rfl (.one rfl (.nil))) rfl rfl) (d_sl (ys := [1, -1]) (h := fI) rfl)) (by exact .cons (.inr fun _ _ _ => rfl) (.cons (.inr fun _ _ _ => rfl) (.nil))) ?_
 refine dq_pure rfl (fun s => .nil) (fun s hs _ => loc_makeFrz rfl rfl (by omega) (by omega) (fun x => dInt .i64 x) 0 rfl (by simp)) (by exact .cons (.inr fun _ _ _ => rfl) (.cons (.inr fun _ _ _ => rfl) (.nil))) ?_
 refine da 1 ?_
 refine dq_pure rfl (fun s => .op rfl (.op rfl (.op rfl (.op rfl (.nil))))) (fun s hs _ => loc_call (begin_spec 3 egR egH [1, -1] egT) rfl) (by exact .cons (.inr fun _ _ _ => rfl) (.cons (.inr fun _ _ _ => rfl) (.nil))) ?_
 refine da 4 ?_
 refine dq_choose Prod.fst (fun s t => (t, s.2)) rfl (fun _ _ => ⟨rfl, id, rfl⟩) (fun s => .nil) rfl rfl (fun s hs => locM_new (loc_allocOwn (by simp))) (by exact .cons (.inl rfl) (.cons (.inr (.inr fun ⟨a, b⟩ ⟨c, d⟩ h => by have h : c = a := h; subst h; exact rfl)) (.nil))) (fun _ _ => rfl) ?_
 refine dq_choose Prod.snd (fun s t => (s.1, t)) rfl (fun _ _ => ⟨rfl, id, rfl⟩) (fun s => .nil) rfl rfl (fun s hs => locM_new (loc_allocOwn (by simp))) (by exact .cons (.inr (.inr fun ⟨a, b⟩ ⟨c, d⟩ h => by have h : d = b := h; subst h; exact rfl)) (.cons (.inl rfl) (.nil))) (fun _ _ => rfl) ?_
 refine dq_write0 rfl (fun s => .op rfl (.op rfl (.nil))) rfl rfl (fun s hs => loc_storeN (ho := (by show OneAll [_, _, _, _, _, _, _, _, _, _, _, _, _, _, _]; infer_instance)) rfl rfl rfl) (by exact .cons (.inl rfl) (.cons (.inl rfl) (.nil))) ?_
 refine dq_write0 rfl (fun s => .op rfl (.op rfl (.nil))) rfl rfl (fun s hs => loc_storeN (ho := (by show OneAll [_, _]; infer_instance)) rfl rfl rfl) (by exact .cons (.inl rfl) (.cons (.inl rfl) (.nil))) ?_
 refine da 1 ?_
 refine dq_end (rs := [_, _, _]) (0, 0) rfl (fun _ => rfl) (.cons rfl (.cons rfl (.nil))) rfl (fun _ => rfl) (fun s9 _ => ?_)
 obtain ⟨b2, b3⟩ := s9
 dsimp only [outG, outM, List.map, List.set, id]
 refine au 3 ?_
 refine run_op (loc_call (notes_spec (bgR 3 egR egH [1, -1] egT) hr) rfl) rfl ?_
 refine au 38 ?_
 refine run_gop rfl rfl gdI.ok (fun hg => loc_call (silent_spec (bgR 3 egR egH [1, -1] egT) 1) rfl) rfl ?_
 refine au 6 ?_
 refine run_drop (.cons _ (.cons _ (.cons _ (.refl _)))) ?_
 refine run_retP Tryz.func33 rfl rfl ?_
 exact d_B ⟨fun _ => trivial, fun _ => ⟨⟨⟨⟨⟨hb.1, by omega⟩, h1⟩, h2⟩, h3⟩, h4⟩⟩
end Go.Q

namespace Go.Q
open Go.Proofs
open Classical
theorem mod_spec (x : Int) : SpecP Tryz.prog 141 [dInt .i64 x] (dInt .i64 (modD x)) := by
  have hb := tmod_bd x 2147483647 (by omega)
  refine specP_of_body Tryz.func141 rfl rfl (fun I M => ?_)
  refine au 16 ?_
  refine run_cond rfl (fun h1 => ?_) (fun h1 => ?_)
  ·
   refine au 10 ?_
   refine run_retP Tryz.func141 rfl rfl ?_
   exact d_int (by rw [← modD_t, if_pos (by assumption)])
  ·
   refine au 6 ?_
   refine run_retP Tryz.func141 rfl rfl ?_
   exact d_int (by rw [← modD_t, if_neg (by assumption)])
theorem row_spec (xs : List Int) : SpecP Tryz.prog 103 [dInts xs] (dInt .i64 (rowD xs)) := by
  refine specP_of_body Tryz.func103 rfl rfl (fun I M => ?_)
  refine au 12 ?_
  first | refine runL_fact (s := 6) rfl (fun _ _ h => dSl_len h) (fun hlen1 => ?_) | skip
  refine au 4 ?_
  refine run_loopC (σ := Nat) (ks := [6, 7]) (.cons rfl (.cons rfl (.nil))) (fun k => [(3, dInt .i64 (rowD (xs.take k))), (8, dInt .i64 (k : Nat))]) (fun k => k ≤ xs.length) (fun k => xs.length - k) (0) (Nat.zero_le _) (.cons rfl (by first | exact fun _ _ h => h | exact d_int (by omega) | exact d_int (by simp) | exact d_intN (by omega) | exact d_any) (.cons rfl (by first | exact fun _ _ h => h | exact d_int (by omega) | exact d_int (by simp) | exact d_intN (by omega) | exact d_any) .nil)) ?_
  intro k hk ih2
  have hb := rowD_bd (xs.take k)
  have hm := modD_bd (xs[k]?.getD default)
  refine au 5 ?_
  refine run_cond rfl (fun h3 => ?_) (fun h3 => ?_)
  ·
   refine au 13 ?_
   refine run_op (loc_call (mod_spec _) rfl) rfl ?_
   refine au 10 ?_
   exact run_againC ih2 (k + 1) (by omega) (by omega) (.cons rfl (d_int (by unfold rowD; rw [foldl_take _ _ _ _ (by omega)]; rfl)) (.cons rfl (by first | exact fun _ _ h => h | exact d_int (by omega) | exact d_int (by simp) | exact d_intN (by omega) | exact d_any) .nil)) (.cons rfl (fun _ _ x => x) (.cons rfl (fun _ _ x => x) (.nil)))
  ·
   refine au 6 ?_
   refine run_retP Tryz.func103 rfl rfl ?_
   exact d_int (by rw [List.take_of_length_le (by omega)])
end Go.Q

namespace Go.Q
open Classical
noncomputable def newSE (id : Int) (s : Schm) : Int := if ¬ shapeS s then 40 else if id < 1 ∨ id > s.servers then 1 else 0
def srv0 : Srv := ⟨0, ⟨0, 0, 0, 0⟩, False, [], []⟩
noncomputable def newS (id : Int) (s : Schm) : Srv := if newSE id s = 0 then ⟨id, s, True, [], []⟩ else srv0
noncomputable def atV (v : Srv) (n : Int) : Nat := bsF (fun h : Held => cmpI h.head.number n) v.versions
def thereV (v : Srv) (n : Int) : Prop := atV v n < v.versions.length ∧ cmpI (v.versions[atV v n]?.getD default).head.number n = 0
noncomputable def loadE (v : Srv) (t : Tab) : Int := if ¬ v.up then 43 else if checkT t ≠ 0 then checkT t else if ¬ validS v.scheme t.p then 40 else if t.rows.length = 0 then 2 else if thereV v t.number then 7 else if v.versions.length ≥ 16 then 4 else hldE v.scheme t v.id
noncomputable def loadV (v : Srv) (t : Tab) : Srv := if loadE v t = 0 then { v with versions := v.versions.take (atV v t.number) ++ [⟨headT t, hldL v.scheme t v.id⟩] ++ v.versions.drop (atV v t.number) } else v
noncomputable def heldV (v : Srv) (n : Int) : Held := v.versions[atV v n]?.getD default
noncomputable def askE (v : Srv) (n : Nte) : Int := if ¬ v.up then 43 else if n.kind ≠ 1 ∨ n.server ≠ v.id then 2 else if ¬ thereV v n.version then 6 else if n.query.length ≠ (heldV v n.version).rows.length ∨ ¬ (okP (heldV v n.version).head.p ∧ allP (heldV v n.version).head.p n.query) then 2
 else if ∃ j ∈ v.jobs, j.read = n.read ∧ j.probe = n.probe then 7 else if v.jobs.length ≥ 32 then 4 else 0
noncomputable def askV (v : Srv) (n : Nte) : Srv := if askE v n = 0 then { v with jobs := v.jobs ++ [⟨n.read, n.probe, n.version, n.query, []⟩] } else v
def dotK (p : Int) (d : Nat) (rows : List (List Int)) (q : List Int) : Nat → Int
 | 0 => 0
 | k + 1 => (dotK p d rows q k + (rows[k]?.getD default)[d]?.getD default * (q[k]?.getD default)) % p
def wordX (h : Held) (j : Job) (lie : Int) : Int := if j.got.length = 0 then (dotK h.head.p j.got.length h.rows j.query h.rows.length + lie % h.head.p) % h.head.p else dotK h.head.p j.got.length h.rows j.query h.rows.length
def numsN (n : Nte) : List Int := [n.kind, n.read, n.probe, n.server, n.version] ++ ([(n.query.length : Int)] ++ n.query) ++ ([(n.values.length : Int)] ++ n.values)
noncomputable def signE (s : Int) (l : List Int) : Int := if ¬ (1 ≤ s ∧ s < 2147483647) then 1 else if l.length > 16384 then 4 else 0
noncomputable def signM (s : Int) (l : List Int) : Int := if signE s l = 0 then rowD (s :: l) else 0
def nte0 : Nte := ⟨0, 0, 0, 0, 0, [], [], 0⟩
noncomputable def job1 (v : Srv) (lie : Int) : Job := { v.jobs[0]?.getD default with got := (v.jobs[0]?.getD default).got ++ [wordX (heldV v (v.jobs[0]?.getD default).version) (v.jobs[0]?.getD default) lie] }
noncomputable def note1 (v : Srv) (lie : Int) : Nte := ⟨2, (job1 v lie).read, (job1 v lie).probe, v.id, (job1 v lie).version, (job1 v lie).query, (job1 v lie).got, 0⟩
noncomputable def moreV (v : Srv) (lie : Int) : Prop := ((job1 v lie).got.length : Int) < (heldV v (v.jobs[0]?.getD default).version).head.width
noncomputable def wordE (v : Srv) (p : Psn) (lie : Int) : Int := if ¬ v.up then 43 else if v.jobs.length = 0 then 6 else if moreV v lie then 0 else signE p.secret (numsN (note1 v lie))
noncomputable def wordV (v : Srv) (p : Psn) (lie : Int) : Srv := if ¬ v.up ∨ v.jobs.length = 0 then v else if moreV v lie then { v with jobs := job1 v lie :: v.jobs.drop 1 } else if signE p.secret (numsN (note1 v lie)) = 0 then { v with jobs := v.jobs.drop 1 } else v
noncomputable def wordR (v : Srv) (p : Psn) (lie : Int) : Prop := v.up ∧ v.jobs.length ≠ 0 ∧ ¬ moreV v lie ∧ signE p.secret (numsN (note1 v lie)) = 0
noncomputable def wordN (v : Srv) (p : Psn) (lie : Int) : Nte := if wordR v p lie then { note1 v lie with mark := signM p.secret (numsN (note1 v lie)) } else nte0
def okHeld (h : Held) : Prop := okP h.head.p ∧ (1 ≤ h.head.width ∧ h.head.width ≤ 64) ∧ h.rows.length ≤ 1024 ∧ ∀ r ∈ h.rows, (r.length : Int) = h.head.width ∧ allP h.head.p r
def okJob (v : Srv) (j : Job) : Prop := thereV v j.version ∧ j.query.length = (heldV v j.version).rows.length ∧ allP (heldV v j.version).head.p j.query ∧ (j.got.length : Int) < (heldV v j.version).head.width ∧ allP (heldV v j.version).head.p j.got
def okSrv (v : Srv) : Prop := v.versions.length ≤ 16 ∧ v.jobs.length ≤ 32 ∧ (∀ h ∈ v.versions, okHeld h) ∧ (∀ i j, i < j → j < v.versions.length → (v.versions[i]?.getD default).head.number < (v.versions[j]?.getD default).head.number) ∧ ∀ j ∈ v.jobs, okJob v j
end Go.Q

namespace Go.Q
open Classical
theorem atV_at {v : Srv} {n : Int} {k : Nat} (hk : k ≤ v.versions.length) (h1 : ∀ a, a < k → (v.versions[a]?.getD default).head.number < n) (h2 : ∀ a, k ≤ a → a < v.versions.length → n ≤ (v.versions[a]?.getD default).head.number) : atV v n = k := by
 unfold atV bsF
 exact bsGo_at (Nat.zero_le _) (Nat.zero_le _) hk (fun a ha => cmpI_neg.2 (h1 a ha)) (fun a ha hb h => by have := cmpI_neg.1 h; have := h2 a ha hb; omega)
theorem atV_le (v : Srv) (n : Int) : atV v n ≤ v.versions.length := by unfold atV bsF; exact (bsGo_le _ _ _ (Nat.zero_le _)).2
def s12 : Schm := ⟨1, 2, 0, 0⟩
end Go.Q

namespace Go.Q
open Go.Proofs
open Classical
theorem d_toSrv {d : D} {t t' : Srv} (e : t = t') (h : ∀ I v, d.rel I v → (dSrv t').rel I v) : ∀ I v, d.rel I v → (dSrv t).rel I v := e ▸ h
theorem d_toNte {d : D} {t t' : Nte} (e : t = t') (h : ∀ I v, d.rel I v → (dNte t').rel I v) : ∀ I v, d.rel I v → (dNte t).rel I v := e ▸ h
end Go.Q

namespace Go.Q
open Go.Proofs
open Classical
theorem finF_spec (p : Int) (xs : List Int) : SpecP Tryz.prog 44 [dAgg [dInt .i64 p], dInts xs] (dB (okP p ∧ allP p xs)) := by
 refine specP_of_body Tryz.func44 rfl rfl (fun I M => ?_)
 refine au 8 ?_
 refine run_op (loc_call (of_spec _) rfl) rfl ?_
 refine au 12 ?_
 refine run_gop rfl rfl gdI.ok (fun hg => loc_call (all_spec _ _) rfl) rfl ?_
 refine au 4 ?_
 refine run_retP Tryz.func44 rfl rfl ?_
 exact d_B (by constructor; (· rintro ⟨a, b⟩; refine ⟨a, fun x hx => ?_⟩; have := b x hx; rwa [show ofP p = p by unfold ofP; rw [if_pos a]] at this); (· rintro ⟨a, b⟩; refine ⟨a, fun x hx => ?_⟩; rw [show ofP p = p by unfold ofP; rw [if_pos a]]; exact b x hx))
end Go.Q

namespace Go.Q
open Go.Proofs
open Classical
theorem mwithin_spec (n : Int) : SpecP Tryz.prog 102 [dInt .i64 n] (dB (1 ≤ n ∧ n < 2147483647)) := by
 refine specP_of_body Tryz.func102 rfl rfl (fun I M => ?_)
 refine au 15 ?_
 refine run_retP Tryz.func102 rfl rfl ?_
 exact fun _ _ h => h
theorem sign_spec (s : Int) (l : List Int) : SpecP Tryz.prog 51 [dInt .i64 s, dInts l] (dTup [dInt .i64 (signM s l), dInt .i64 (signE s l)]) := by
  refine specP_of_body Tryz.func51 rfl rfl (fun I M => ?_)
  refine au 9 ?_
  refine run_op (loc_call (mwithin_spec _) rfl) rfl ?_
  refine au 2 ?_
  refine run_cond rfl (fun h1 => ?_) (fun h1 => ?_)
  ·
   have hE : signE s l = 1 := by unfold signE; rw [if_pos h1]
   refine au 5 ?_
   refine run_ret2P Tryz.func51 rfl rfl rfl ?_
   exact d_tup2 (d_int (by unfold signM; rw [if_neg (by omega)])) (d_int hE.symm)
  ·
   have c1 := Classical.not_not.1 h1
   refine au 5 ?_
   first | refine runL_fact (s := 9) rfl (fun _ _ h => dSl_len h) (fun hlen2 => ?_) | skip
   refine au 3 ?_
   refine run_cond rfl (fun h3 => ?_) (fun h3 => ?_)
   ·
    have hE : signE s l = 4 := by unfold signE; rw [if_neg (Classical.not_not.2 c1), if_pos (by omega)]
    refine au 5 ?_
    refine run_ret2P Tryz.func51 rfl rfl rfl ?_
    exact d_tup2 (d_int (by unfold signM; rw [if_neg (by omega)])) (d_int hE.symm)
   ·
    have hE : signE s l = 0 := by unfold signE; rw [if_neg (Classical.not_not.2 c1), if_neg (by omega)]
    refine au 4 ?_
    refine run_new (loc_buildOwn (f' := fI) (xs := [s]) rfl rfl (.one rfl (.nil)) rfl rfl rfl) rfl (fun b4 _ => ?_)
    refine au 1 ?_
    refine run_upd (LocM.frz (loc_append rfl rfl rfl (by first | omega | (simp [lenMax]; omega) | (simp [lenMax]; done) | assumption) (by first | omega | (simp [lenMax]; omega) | (simp [lenMax]; done) | assumption)) rfl) rfl (.here) (fun v5 hv5 => ?_)
    refine run_op (loc_call (row_spec _) rfl) rfl ?_
    refine au 3 ?_
    refine run_drop (.cons _ (.refl _)) ?_
    refine run_ret2P Tryz.func51 rfl rfl rfl ?_
    exact d_tup2 (d_int (by unfold signM; rw [if_pos hE]; rfl)) (d_int hE.symm)
def flatL (ls : List (List Int)) : List Int := ls.flatMap fun l => (l.length : Int) :: l
theorem flatL_snoc {ls : List (List Int)} {k : Nat} (h : k < ls.length) : flatL (ls.take (k + 1)) = flatL (ls.take k) ++ [((ls[k]?.getD default).length : Int)] ++ (ls[k]?.getD default) := by
 unfold flatL
 rw [take_snoc h, List.flatMap_append]; simp
theorem flatL_le {ls : List (List Int)} (h : ls.length ≤ 10 ∧ ∀ l ∈ ls, l.length ≤ 100000) : ∀ k, k ≤ ls.length → (flatL (ls.take k)).length ≤ k * 100001
 | 0, _ => by simp [flatL]
 | k + 1, hk => by
  have h1 := flatL_le h k (by omega)
  have h2 := h.2 _ (getD_mem (xs := ls) (k := k) (by omega))
  rw [flatL_snoc (by omega), List.length_append, List.length_append, List.length_singleton]; omega
theorem withLists_spec (v : Value) (out : List Int) (ls : List (List Int)) (h : ls.length ≤ 10 ∧ ∀ l ∈ ls, l.length ≤ 100000) (ho : out.length ≤ 100) : Spec Tryz.prog 66 [dVal v, dRows ls] [rRow v 3 1 fI out] (σ := Value) (fun _ => True) (fun u => dVal u) (fun u => [rRow u 3 1 fI (out ++ flatL ls)]) := by
  refine spec_of_body Tryz.func66 rfl rfl (fun I F => ?_)
  refine au 8 ?_
  first | refine runL_fact (s := 7) rfl (fun _ _ h => dSl_len h) (fun hlen1 => ?_) | skip
  refine au 4 ?_
  refine run_loopF (σ := Value × Nat) (ks := [7, 8]) (.cons rfl (.cons rfl (.nil))) (fun q => [(0, dVal q.1), (9, dInt .i64 (q.2 : Nat))]) (fun q => [rRow q.1 3 1 fI (out ++ flatL (ls.take q.2))]) (fun q => q.2 ≤ ls.length) (fun q => ls.length - q.2) ((v, 0)) (Nat.zero_le _) (.cons rfl (by first | exact fun _ _ h => h | exact d_int (by omega) | exact d_int (by simp) | exact d_intN (by omega) | exact d_any) (.cons rfl (by first | exact fun _ _ h => h | exact d_int (by omega) | exact d_int (by simp) | exact d_intN (by omega) | exact d_any) .nil)) (by simp only [appR]; rw [List.take_zero, show flatL [] = [] from rfl, List.append_nil]; rfl) ?_
  intro q hq ih2
  have hfl := flatL_le h q.2 hq
  have hol : (out ++ flatL (ls.take q.2)).length ≤ 2000000 := by rw [List.length_append]; omega
  refine au 5 ?_
  refine run_cond rfl (fun h3 => ?_) (fun h3 => ?_)
  ·
   have hlk := h.2 _ (getD_mem (xs := ls) (k := q.2) (by omega))
   have hol2 : (out ++ flatL (ls.take q.2) ++ [((ls[q.2]?.getD default).length : Int)]).length ≤ 2000001 := by rw [List.length_append, List.length_singleton]; omega
   refine au 12 ?_
   first | refine runL_fact (s := 14) rfl (fun _ _ h => dSl_len h) (fun hlen4 => ?_) | skip
   refine au 1 ?_
   refine run_op (loc_buildSlice rfl rfl (.one rfl (.nil)) rfl rfl) rfl ?_
   refine run_append1 rfl (.here) rfl (by rfl) (by rfl) (by first | omega | (simp [lenMax]; omega) | (simp [lenMax]; done) | assumption) (by first | omega | (simp [lenMax]; omega) | (simp [lenMax]; done) | assumption) rfl (fun v5 => ?_)
   refine au 1 ?_
   refine run_append rfl (.here) rfl (by rfl) (by first | omega | (simp [lenMax]; omega) | (simp [lenMax]; done) | assumption) (by first | omega | (simp [lenMax]; omega) | (simp [lenMax]; done) | assumption) rfl (fun v6 => ?_)
   refine au 7 ?_
   exact run_againF ih2 ((v6, q.2 + 1)) (by simp only; omega) (by simp only; omega) (.cons rfl (by first | exact fun _ _ h => h | exact d_int (by omega) | exact d_int (by simp) | exact d_intN (by omega) | exact d_any) (.cons rfl (by first | exact fun _ _ h => h | exact d_int (by omega) | exact d_int (by simp) | exact d_intN (by omega) | exact d_any) .nil)) (.cons rfl (fun _ _ x => x) (.cons rfl (fun _ _ x => x) (.nil))) (by simp only [appR]; rw [flatL_snoc (by omega)]; simp only [List.append_assoc])
  ·
   refine au 6 ?_
   refine run_ret (q.1) Tryz.func66 rfl rfl ?_ (trivial) (fun I w h => by rw [List.take_of_length_le (by omega)] at h; exact h)
   exact fun _ _ h => h
theorem numbers_spec (n : Nte) (hn : n.query.length ≤ 100000 ∧ n.values.length ≤ 100000) : SpecP Tryz.prog 26 [dNte n] (dInts (numsN n)) := by
 refine specP_of_body Tryz.func26 rfl rfl (fun I M => ?_)
 refine au 17 ?_
 refine run_new (loc_buildOwn (f' := fI) (xs := [n.kind, n.read, n.probe, n.server, n.version]) rfl rfl (.one rfl (.one rfl (.one rfl (.one rfl (.one rfl (.nil)))))) rfl rfl rfl) rfl (fun b1 _ => ?_)
 refine au 4 ?_
 refine run_op (loc_buildSlice rfl rfl (.one rfl (.one rfl (.nil))) rfl rfl) rfl ?_
 refine runL_recast (s := 18) rfl (d_sl (ys := [n.query, n.values]) (h := fR) rfl) ?_
 refine run_callM rfl (.here) (withLists_spec _ _ [n.query, n.values] ⟨by simp, fun l hl => by rcases List.mem_cons.1 hl with rfl | hl; (· exact hn.1); (· rw [List.mem_singleton.1 hl]; exact hn.2)⟩ (by simp)) rfl (fun s2 hs2 => ?_)
 refine au 2 ?_
 refine run_freezeRow (s := 2) rfl (.here) ?_
 refine run_retP Tryz.func26 rfl rfl ?_
 exact d_eq (by unfold numsN flatL; simp)
end Go.Q

namespace Go.Q
open Go.Proofs
open Classical
theorem ints30_spec (xs ys : List Int) : SpecP Tryz.prog 25 [dInts xs, dInts ys] (dB (xs = ys)) := by
  refine specP_of_body Tryz.func25 rfl rfl (fun I M => ?_)
  refine au 8 ?_
  first | refine runL_fact (s := 6) rfl (fun _ _ h => dSl_len h) (fun hlen1 => ?_) | skip
  refine au 2 ?_
  first | refine runL_fact (s := 8) rfl (fun _ _ h => dSl_len h) (fun hlen2 => ?_) | skip
  refine au 3 ?_
  refine run_cond rfl (fun h3 => ?_) (fun h3 => ?_)
  ·
   refine au 4 ?_
   refine run_retP Tryz.func25 rfl rfl ?_
   exact d_B ⟨False.elim, fun h => by subst h; omega⟩
  ·
   refine au 7 ?_
   refine run_loopC (σ := Nat) (ks := [0, 1]) (.cons rfl (.cons rfl (.nil))) (fun k => [(5, dInt .i64 (k : Nat))]) (fun k => k ≤ xs.length ∧ (∀ j, j < k → xs[j]?.getD default = ys[j]?.getD default)) (fun k => xs.length - k) (0) (⟨by omega, fun j hj => by omega⟩) (.cons rfl (by first | exact fun _ _ h => h | exact d_int (by omega) | exact d_int (by simp) | exact d_intN (by omega) | exact d_any) .nil) ?_
   rintro k ⟨hk, hbk⟩ ih4
   refine au 5 ?_
   first | refine runL_fact (s := 12) rfl (fun _ _ h => dSl_len h) (fun hlen5 => ?_) | skip
   refine au 3 ?_
   refine run_cond rfl (fun h6 => ?_) (fun h6 => ?_)
   ·
    refine au 4 ?_
    refine dr_start _ (.none) [⟨[(0, none)], [], none⟩,
        ⟨[(5, none)], [], none⟩,
        ⟨[(17, some (0, false)), (18, some (1, false))], [0, 1], none⟩,
        ⟨[(19, some (2, false))], [0, 1, 2], none⟩,
        ⟨[(1, none)], [], none⟩,
        ⟨[(5, none)], [], none⟩,
        ⟨[(21, some (4, false)), (22, some (5, false))], [4, 5], none⟩,
        ⟨[(23, some (6, false))], [4, 5, 6], none⟩,
        ⟨[(20, some (3, false)), (24, some (7, false))], [0, 1, 2, 3, 4, 5, 6, 7], none⟩] [] _ rfl rfl ?_
    refine da 9 ?_
    refine dq_end (rs := []) () rfl (fun _ => rfl) (.nil) rfl (fun _ => rfl) (fun _ _ => ?_)
    dsimp only [outG, outM, List.map, List.set, id]
    refine run_cond rfl (fun h7 => ?_) (fun h7 => ?_)
    ·
     refine au 4 ?_
     refine run_retP Tryz.func25 rfl rfl ?_
     exact d_B ⟨False.elim, fun h => by subst h; contradiction⟩
    ·
     refine au 7 ?_
     exact run_againC ih4 (k + 1) (⟨by omega, fun j hj => by by_cases e : j = k; (· subst e; exact Classical.not_not.1 (by assumption)); (· exact hbk j (by omega))⟩) (by omega) (.cons rfl (by first | exact fun _ _ h => h | exact d_int (by omega) | exact d_int (by simp) | exact d_intN (by omega) | exact d_any) .nil) (.cons rfl (fun _ _ x => x) (.cons rfl (fun _ _ x => x) (.nil)))
   ·
    refine au 5 ?_
    refine run_retP Tryz.func25 rfl rfl ?_
    exact d_B ⟨fun _ => list_extD (by omega) (fun j hj => hbk j (by omega)), fun _ => trivial⟩
theorem rows30_spec (xs ys : List (List Int)) : SpecP Tryz.prog 113 [dRows xs, dRows ys] (dB (xs = ys)) := by
  refine specP_of_body Tryz.func113 rfl rfl (fun I M => ?_)
  refine au 8 ?_
  first | refine runL_fact (s := 6) rfl (fun _ _ h => dSl_len h) (fun hlen1 => ?_) | skip
  refine au 2 ?_
  first | refine runL_fact (s := 8) rfl (fun _ _ h => dSl_len h) (fun hlen2 => ?_) | skip
  refine au 3 ?_
  refine run_cond rfl (fun h3 => ?_) (fun h3 => ?_)
  ·
   refine au 4 ?_
   refine run_retP Tryz.func113 rfl rfl ?_
   exact d_B ⟨False.elim, fun h => by subst h; omega⟩
  ·
   refine au 7 ?_
   refine run_loopC (σ := Nat) (ks := [0, 1]) (.cons rfl (.cons rfl (.nil))) (fun k => [(5, dInt .i64 (k : Nat))]) (fun k => k ≤ xs.length ∧ (∀ j, j < k → xs[j]?.getD default = ys[j]?.getD default)) (fun k => xs.length - k) (0) (⟨by omega, fun j hj => by omega⟩) (.cons rfl (by first | exact fun _ _ h => h | exact d_int (by omega) | exact d_int (by simp) | exact d_intN (by omega) | exact d_any) .nil) ?_
   rintro k ⟨hk, hbk⟩ ih4
   refine au 5 ?_
   first | refine runL_fact (s := 12) rfl (fun _ _ h => dSl_len h) (fun hlen5 => ?_) | skip
   refine au 3 ?_
   refine run_cond rfl (fun h6 => ?_) (fun h6 => ?_)
   ·
    refine au 4 ?_
    refine dr_start _ (.none) [⟨[(0, none)], [], none⟩,
        ⟨[(5, none)], [], none⟩,
        ⟨[(17, some (0, false)), (18, some (1, false))], [0, 1], none⟩,
        ⟨[(19, some (2, false))], [0, 1, 2], none⟩,
        ⟨[(1, none)], [], none⟩,
        ⟨[(5, none)], [], none⟩,
        ⟨[(21, some (4, false)), (22, some (5, false))], [4, 5], none⟩,
        ⟨[(23, some (6, false))], [4, 5, 6], none⟩,
        ⟨[(20, some (3, false)), (24, some (7, false))], [0, 1, 2, 3, 4, 5, 6, 7], none⟩,
        ⟨[(25, some (8, false))], [0, 1, 2, 3, 4, 5, 6, 7, 8], none⟩] [] _ rfl rfl ?_
    refine da 8 ?_
    refine dq_pure rfl (fun s => .op rfl (.op rfl (.nil))) (fun s hs _ => loc_call (ints30_spec _ _) rfl) (by exact .nil) ?_
    refine da 1 ?_
    refine dq_end (rs := []) () rfl (fun _ => rfl) (.nil) rfl (fun _ => rfl) (fun _ _ => ?_)
    dsimp only [outG, outM, List.map, List.set, id]
    refine run_cond rfl (fun h7 => ?_) (fun h7 => ?_)
    ·
     refine au 4 ?_
     refine run_retP Tryz.func113 rfl rfl ?_
     exact d_B ⟨False.elim, fun h => by subst h; contradiction⟩
    ·
     refine au 7 ?_
     exact run_againC ih4 (k + 1) (⟨by omega, fun j hj => by by_cases e : j = k; (· subst e; exact Classical.not_not.1 (by assumption)); (· exact hbk j (by omega))⟩) (by omega) (.cons rfl (by first | exact fun _ _ h => h | exact d_int (by omega) | exact d_int (by simp) | exact d_intN (by omega) | exact d_any) .nil) (.cons rfl (fun _ _ x => x) (.cons rfl (fun _ _ x => x) (.nil)))
   ·
    refine au 5 ?_
    refine run_retP Tryz.func113 rfl rfl ?_
    exact d_B ⟨fun _ => list_extD (by omega) (fun j hj => hbk j (by omega)), fun _ => trivial⟩
theorem sameRs30_spec (xs ys : List (List Int)) : SpecP Tryz.prog 61 [dRows xs, dRows ys] (dB (xs = ys)) := by
 refine specP_of_body Tryz.func61 rfl rfl (fun I M => ?_)
 refine au 8 ?_
 refine run_op (loc_call (rows30_spec _ _) rfl) rfl ?_
 refine au 2 ?_
 refine run_retP Tryz.func61 rfl rfl ?_
 exact fun _ _ h => h
end Go.Q

namespace Go.Q
open Classical
end Go.Q

namespace Go.Q
open Classical
theorem app_mem_left {α : Type} [Inhabited α] {xs ys : List α} {j : Nat} (h : j < xs.length) : (xs ++ ys)[j]?.getD default ∈ xs := by
 rw [List.getElem?_append_left h]; exact getD_mem h
theorem app_mem_right {α : Type} [Inhabited α] {xs ys : List α} {j : Nat} (h : xs.length ≤ j) (h2 : j < (xs ++ ys).length) : (xs ++ ys)[j]?.getD default ∈ ys := by
 rw [List.length_append] at h2
 rw [List.getElem?_append_right h]; exact getD_mem (by omega)
theorem ins_at {v : Srv} {vs1 vs2 : List Held} {n : Int} (hv : v.versions = vs1 ++ vs2) (h1 : ∀ h ∈ vs1, h.head.number < n) (h2 : ∀ h ∈ vs2, n < h.head.number) : atV v n = vs1.length ∧ ¬ thereV v n := by
 have e : atV v n = vs1.length := by
  refine atV_at (by rw [hv, List.length_append]; omega) (fun a ha => ?_) (fun a ha hb => ?_)
  ·rw [hv]; exact h1 _ (app_mem_left ha)
  ·rw [hv] at hb ⊢; have := h2 _ (app_mem_right ha hb); omega
 refine ⟨e, fun h => ?_⟩
 obtain ⟨h3, h4⟩ := h
 rw [e] at h3 h4
 rw [hv] at h3 h4
 have h5 := h2 _ (app_mem_right (Nat.le_refl _) h3)
 have h6 := cmpI_zero.1 h4
 omega
theorem load_ins {v : Srv} {t : Tab} {vs1 vs2 : List Held} (hu : v.up) (ht : checkT t = 0) (hvs : validS v.scheme t.p) (hr : 1 ≤ t.rows.length) (hid : 1 ≤ v.id ∧ v.id ≤ v.scheme.servers) (hv : v.versions = vs1 ++ vs2) (hl : v.versions.length < 16) (h1 : ∀ h ∈ vs1, h.head.number < t.number) (h2 : ∀ h ∈ vs2, t.number < h.head.number) :
  loadE v t = 0 ∧ loadV v t = { v with versions := vs1 ++ ⟨headT t, hldL v.scheme t v.id⟩ :: vs2 } := by
 obtain ⟨h3, h4⟩ := ins_at hv h1 h2
 have e : loadE v t = 0 := by
  unfold loadE
  rw [if_neg (Classical.not_not.2 hu), if_neg (Classical.not_not.2 ht), if_neg (Classical.not_not.2 hvs), if_neg (by omega), if_neg h4, if_neg (by omega)]
  exact (hld_ok hvs ht hr hid).1
 refine ⟨e, ?_⟩
 unfold loadV
 rw [if_pos e, h3, hv, List.take_left' rfl, List.drop_left' rfl]
 simp
noncomputable def heldT (s : Schm) (id : Int) (t : Tab) : Held := ⟨headT t, hldL s t id⟩
theorem heldT_number {s : Schm} {id : Int} {t : Tab} (h : checkT t = 0) : (heldT s id t).head.number = t.number := by unfold heldT; rw [head_ok h]
end Go.Q

namespace Go.Q
open Classical
theorem hld_sz {s : Schm} {t : Tab} {j : Int} (hv : validS s t.p) (ht : checkT t = 0) (hn : 1 ≤ t.rows.length) (hj : 1 ≤ j ∧ j ≤ s.servers) : (hldL s t j).length ≤ 1024 ∧ ∀ r ∈ hldL s t j, r.length ≤ 64 := by
 have hct := checkT_ok ht
 have hs := hv.1
 unfold shapeS at hs
 have h2 := (hld_ok hv ht hn hj).2
 have hn2 : 1 ≤ (t.rows.length : Int) ∧ (t.rows.length : Int) ≤ 1024 := by have := hct.2.2.2.1; omega
 rw [units_ok hv.1 hn2] at h2
 constructor
 ·split at h2
  ·have := grp_bd hn2 (g := s.group) (by omega); omega
  ·omega
 ·intro r hr
  unfold hldL at hr
  rw [if_neg (hld_no ht hv hj)] at hr
  split at hr
  ·unfold holdG at hr
   split at hr
   ·obtain ⟨q, _, rfl⟩ := List.mem_map.1 hr
    unfold heldG
    rw [(heldN_ok (by have := hv.2.1.1; omega) j t.width.toNat q.2 q.2.length).1]
    have := hct.2.2.1; omega
   ·cases hr
  ·have := (hct.2.2.2.2 r hr).1
   have := hct.2.2.1; omega
end Go.Q

namespace Go.Q
open Classical
def prs (i : Nat) : Psn := ⟨(i : Int) + 1, 1000 + ((i : Int) + 1)⟩
def peopleL : List Psn := (List.range 10).map prs
theorem people_len : peopleL.length = 10 := rfl
theorem people_get {k : Nat} (h : k < 10) : peopleL[k]?.getD default = prs k := by
 unfold peopleL
 rw [List.getElem?_map, List.getElem?_range h]; rfl
theorem prs_snoc (k : Nat) : (List.range (k + 1)).map prs = (List.range k).map prs ++ [prs k] := by rw [List.range_succ, List.map_append]; rfl
def combN (p : Int) (w : Nat) (rows : List (List Int)) (q : List Int) : Nat → List Int
 | 0 => List.replicate w 0
 | k + 1 => addT p (q[k]?.getD default) (combN p w rows q k) (rows[k]?.getD default)
theorem combN_ok {p : Int} (hp : 2 ≤ p) (w : Nat) (rows : List (List Int)) (q : List Int) : ∀ k, (combN p w rows q k).length = w ∧ ∀ x ∈ combN p w rows q k, hasP p x
 | 0 => ⟨by simp [combN], rep0_has hp w⟩
 | k + 1 => by
  obtain ⟨h1, h2⟩ := combN_ok hp w rows q k
  exact ⟨by unfold combN; rw [addT_len]; exact h1, by unfold combN; exact addT_has (by omega) h2⟩
theorem addT_at (p x : Int) : ∀ (ts ws : List Int) (j : Nat), j < ts.length → j < ws.length → (addT p x ts ws)[j]?.getD default = (ts[j]?.getD default + x * (ws[j]?.getD default) % p) % p
 | t :: ts, a :: ws, 0, _, _ => by simp [addT]
 | t :: ts, a :: ws, j + 1, h1, h2 => by
  simp only [addT, List.getElem?_cons_succ]
  exact addT_at p x ts ws j (by simpa using h1) (by simpa using h2)
theorem combN_at {p : Int} (hp : 2 ≤ p) {w : Nat} {rows : List (List Int)} {q : List Int} {j : Nat} (hj : j < w) : ∀ k, k ≤ rows.length → (∀ r ∈ rows, r.length = w) → (combN p w rows q k)[j]?.getD default = dotK p j rows q k
 | 0, _, _ => by simp [combN, dotK, List.getElem?_replicate, hj]
 | k + 1, hk, hr => by
  have h1 := combN_at hp hj k (by omega) hr (q := q)
  have hl := (combN_ok hp w rows q k).1
  have hrk := hr _ (getD_mem (xs := rows) (k := k) (by omega))
  unfold combN dotK
  rw [addT_at _ _ _ _ _ (by omega) (by omega), h1, Int.add_emod_emod, Int.mul_comm]
theorem grp_quo1 {n : Nat} {g : Int} (hg : 1 ≤ g) (h : 0 < (n : Int) % g) : (n : Int) / g + 1 = (grpN n g.toNat : Nat) := by
 obtain ⟨m, rfl⟩ : ∃ m : Nat, g = m := ⟨g.toNat, by omega⟩
 have hm : 0 < m := by omega
 rw [← Int.natCast_emod] at h
 have h1 : 0 < n % m := by omega
 unfold grpN
 rw [Int.toNat_natCast, ← Int.natCast_ediv]
 have e : (n + m - 1) / m = n / m + 1 := by
  have h2 := Nat.div_add_mod n m
  have h3 := Nat.mod_lt n hm
  rw [Nat.div_eq_iff hm]
  have e3 : (n / m + 1) * m = m * (n / m) + m := by rw [Nat.add_mul, Nat.one_mul, Nat.mul_comm]
  constructor
  ·omega
  ·omega
 rw [e]; simp
theorem grp_quo0 {n : Nat} {g : Int} (hg : 1 ≤ g) (h : ¬ 0 < (n : Int) % g) : (n : Int) / g = (grpN n g.toNat : Nat) := by
 obtain ⟨m, rfl⟩ : ∃ m : Nat, g = m := ⟨g.toNat, by omega⟩
 have hm : 0 < m := by omega
 rw [← Int.natCast_emod] at h
 have h1 : n % m = 0 := by omega
 unfold grpN
 rw [Int.toNat_natCast, ← Int.natCast_ediv]
 have e : (n + m - 1) / m = n / m := by
  have h2 := Nat.div_add_mod n m
  rw [Nat.div_eq_iff hm]
  have e3 : (n / m) * m = m * (n / m) := Nat.mul_comm _ _
  constructor
  ·omega
  ·omega
 rw [e]
end Go.Q

namespace Go.Q
open Go.Proofs
open Classical
theorem people_spec  : SpecP Tryz.prog 14 [] (dSl 2 cPsn peopleL) := by
  refine specP_of_body Tryz.func14 rfl rfl (fun I M => ?_)
  refine au 14 ?_
  refine run_rowNil 51 2 cPsn ?_
  refine run_loopF (σ := Value × Nat) (ks := []) (.nil) (fun q => [(1, dVal q.1), (2, dInt .i64 ((q.2 : Int) + 1))]) (fun q => [rRow q.1 51 2 cPsn ((List.range q.2).map prs)]) (fun q => q.2 ≤ 10) (fun q => 10 - q.2) ((.slice none 0 0, 0)) (Nat.zero_le _) (.cons rfl (by first | exact fun _ _ h => h | exact d_int (by omega) | exact d_int (by simp) | exact d_intN (by omega) | exact d_any) (.cons rfl (d_int (by simp)) .nil)) (rfl) ?_
  intro q hq ih1
  have hpl : ((List.range q.2).map prs).length = q.2 := by simp
  refine au 6 ?_
  refine run_cond rfl (fun h2 => ?_) (fun h2 => ?_)
  ·
   refine au 9 ?_
   refine run_op (loc_buildSlice rfl rfl (.agg rfl (.nil)) rfl rfl) rfl ?_
   refine run_append1 (e0 := prs q.2) rfl (.here) rfl (by rfl) (by rfl) (by first | omega | (simp [lenMax]; omega) | (simp [lenMax]; done) | assumption) (by first | omega | (simp [lenMax]; omega) | (simp [lenMax]; done) | assumption) rfl (fun v3 => ?_)
   refine au 8 ?_
   exact run_againF ih1 ((v3, q.2 + 1)) (by simp only; omega) (by simp only; omega) (.cons rfl (by first | exact fun _ _ h => h | exact d_int (by omega) | exact d_int (by simp) | exact d_intN (by omega) | exact d_any) (.cons rfl (d_int (by simp only; omega)) .nil)) (.nil) (by simp only [appR]; rw [prs_snoc])
  ·
   refine au 2 ?_
   refine run_freezeRow (s := 1) rfl (.here) ?_
   refine au 4 ?_
   refine run_retP Tryz.func14 rfl rfl ?_
   exact d_sl (by rw [show q.2 = 10 by omega]; rfl)
theorem number_spec (n : Int) : SpecP Tryz.prog 121 [dInt .i64 n] (dB (1 ≤ n ∧ n < 2147483647)) := by
 refine specP_of_body Tryz.func121 rfl rfl (fun I M => ?_)
 refine au 15 ?_
 refine run_retP Tryz.func121 rfl rfl ?_
 exact fun _ _ h => h
theorem rsign_spec (s : Int) (l : List Int) : SpecP Tryz.prog 68 [dInt .i64 s, dInts l] (dTup [dInt .i64 (signM s l), dInt .i64 (signE s l)]) := by
  refine specP_of_body Tryz.func68 rfl rfl (fun I M => ?_)
  refine au 9 ?_
  refine run_op (loc_call (number_spec _) rfl) rfl ?_
  refine au 2 ?_
  refine run_cond rfl (fun h1 => ?_) (fun h1 => ?_)
  ·
   have hE : signE s l = 1 := by unfold signE; rw [if_pos h1]
   refine au 5 ?_
   refine run_ret2P Tryz.func68 rfl rfl rfl ?_
   exact d_tup2 (d_int (by unfold signM; rw [if_neg (by omega)])) (d_int hE.symm)
  ·
   have c1 := Classical.not_not.1 h1
   refine au 5 ?_
   first | refine runL_fact (s := 9) rfl (fun _ _ h => dSl_len h) (fun hlen2 => ?_) | skip
   refine au 3 ?_
   refine run_cond rfl (fun h3 => ?_) (fun h3 => ?_)
   ·
    have hE : signE s l = 4 := by unfold signE; rw [if_neg (Classical.not_not.2 c1), if_pos (by omega)]
    refine au 5 ?_
    refine run_ret2P Tryz.func68 rfl rfl rfl ?_
    exact d_tup2 (d_int (by unfold signM; rw [if_neg (by omega)])) (d_int hE.symm)
   ·
    have hE : signE s l = 0 := by unfold signE; rw [if_neg (Classical.not_not.2 c1), if_neg (by omega)]
    refine au 4 ?_
    refine run_new (loc_buildOwn (f' := fI) (xs := [s]) rfl rfl (.one rfl (.nil)) rfl rfl rfl) rfl (fun b4 _ => ?_)
    refine au 1 ?_
    refine run_upd (LocM.frz (loc_append rfl rfl rfl (by first | omega | (simp [lenMax]; omega) | (simp [lenMax]; done) | assumption) (by first | omega | (simp [lenMax]; omega) | (simp [lenMax]; done) | assumption)) rfl) rfl (.here) (fun v5 hv5 => ?_)
    refine run_op (loc_call (rrow_spec _) rfl) rfl ?_
    refine au 3 ?_
    refine run_drop (.cons _ (.refl _)) ?_
    refine run_ret2P Tryz.func68 rfl rfl rfl ?_
    exact d_tup2 (d_int (by unfold signM; rw [if_pos hE]; rfl)) (d_int hE.symm)
end Go.Q
