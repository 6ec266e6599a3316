/- Contracts of dice: a read and its answers. -/
import Derived.Test.YtgaalfgmgmpnbaaGreatQPlainY4
import Derived.Test.YtgaalfgmgmpnbaaGreatQDraws
import Derived.Test.YtgaalfgmgmpnbaaGreatQServer6
import Derived.Test.YtgaalfgmgmpnbaaGreatQFitsR
import Derived.Test.YtgaalfgmgmpnbaaGreatQRound
import Derived.ProofKit
import Derived.SizedLaws
import Derived.Deep.Matrix
import Derived.Lib.SmallJoins
set_option linter.unusedVariables false
set_option linter.unusedSimpArgs false
namespace Go.Q
open Go.Proofs
open Classical
theorem dreader_spec (b : Nat) (d : Dc) (h : okDc d) (sc : Schm) (tb : Tab) (p : Int) (hs : dieS sc) (hp : dieP p) (ht : dieT p tb) : Spec Tryz.prog 37 [dVal (ptr b 0), dSchm sc, dTab tb] [rDc b d] (σ := Rdr × List Nte × Dc) (fun s => gotR s.1 s.2.1 ∧ (s.1.head = headT tb ∧ s.1.scheme = sc ∧ (0 ≤ s.1.read ∧ s.1.read ≤ 2)) ∧ okDc s.2.2) (fun s => dTup [dRdr s.1, dSl 8 cNte s.2.1]) (fun s => [rDc b s.2.2]) := by
  refine spec_of_body Tryz.func37 rfl rfl (fun I F => ?_)
  refine au 4 ?_
  refine run_new (loc_allocOwn (by simp)) rfl (fun b1 _ => ?_)
  refine au 5 ?_
  refine run_op (loc_call (rhead_spec tb) rfl) rfl ?_
  refine au 3 ?_
  refine run_new (loc_allocOwn (by simp)) rfl (fun b2 _ => ?_)
  refine au 4 ?_
  have htr := ht.2.2.1
  refine au 4 ?_
  first | refine runL_fact (s := 33) rfl (fun _ _ h => dSl_len h) (fun hlen3 => ?_) | skip
  refine au 1 ?_
  refine run_callM rfl (.there (.there (.here))) (dwish_spec b _ h _ ⟨by omega, by omega⟩) rfl (fun wa hwa => ?_)
  refine au 9 ?_
  first | refine runL_fact (s := 41) rfl (fun _ _ h => dSl_len h) (fun hlen4 => ?_) | skip
  refine au 2 ?_
  first | refine runL_fact (s := 43) rfl (fun _ _ h => dSl_len h) (fun hlen5 => ?_) | skip
  refine au 1 ?_
  refine run_op (loc_call (rwlim_spec sc tb.p _ _) rfl) rfl ?_
  refine au 7 ?_
  have hla := hwa.1.1
  have hk : 1 ≤ (wa.1.length : Int) ∧ (wa.1.length : Int) ≤ 3 := by omega
  have hn : 1 ≤ (tb.rows.length : Int) ∧ (tb.rows.length : Int) ≤ 5 := by omega
  have hsv := hs.2
  have hva := die_valid hs hp
  have htp := ht.2.1
  have hlm := wlim_ok (k := (wa.1.length : Int)) hva (by omega : 1 ≤ (tb.rows.length : Int) ∧ (tb.rows.length : Int) ≤ 1024) (by omega)
  have hli := limN_die hs hn
  have hmb := mul_bd (a := (wa.1.length : Int)) (b := limN sc (tb.rows.length : Int)) (A := 3) (B := 30) (by omega) (by omega) (by omega) (by omega)
  have hms := mul_bd (a := (wa.1.length : Int)) (b := sc.servers) (A := 3) (B := 6) (by omega) (by omega) (by omega) (by omega)
  rw [← htp] at hlm
  have hlen : ((wlimL sc tb.p (tb.rows.length : Int) (wa.1.length : Int)).length : Int) = (wa.1.length : Int) * limN sc (tb.rows.length : Int) := by rw [hlm.2, List.length_replicate]; omega
  have hpp := (dieP_ok hp).2
  have hll : (wlimL sc tb.p (tb.rows.length : Int) (wa.1.length : Int)).length ≤ 100000 := by omega
  have hlo : ∀ l ∈ (wlimL sc tb.p (tb.rows.length : Int) (wa.1.length : Int)), 1 ≤ l := by intro l hl; rw [hlm.2] at hl; rw [List.eq_of_mem_replicate hl]; omega
  have hd2 := Dc.next_ok hwa.2
  refine run_addNone ?_
  refine run_addNone ?_
  refine dr_start _ (.three (τ1 := Tape × Dc) (τ2 := Nat) (τ3 := Nat) 7 13 14 (fun r => dieTp (wlimL sc tb.p (tb.rows.length : Int) (wa.1.length : Int)) r.1 ∧ okDc r.2) (fun _ => True) (fun _ => True)) [⟨[(0, none)], [], none⟩,
      ⟨[(49, some (0, false))], [0], some (4, 0, true)⟩,
      ⟨[(4, none)], [], none⟩,
      ⟨[(8, none)], [], some (2, 0, false)⟩,
      ⟨[(10, none)], [], none⟩,
      ⟨[(0, none)], [], none⟩,
      ⟨[(11, none)], [], none⟩,
      ⟨[(54, some (5, false)), (55, some (6, false))], [0, 1, 5, 6], some (4, 1, true)⟩,
      ⟨[(50, some (1, false)), (51, some (2, false)), (52, some (3, false)), (53, some (4, false)), (56, some (7, false))], [0, 1, 2, 3, 4, 5, 6, 7], none⟩,
      ⟨[(57, some (8, false))], [0, 1, 2, 3, 4, 5, 6, 7, 8], none⟩,
      ⟨[(48, some (9, false))], [0, 1, 2, 3, 4, 5, 6, 7, 8, 9], none⟩,
      ⟨[(48, some (9, false))], [0, 1, 2, 3, 4, 5, 6, 7, 8, 9], none⟩,
      ⟨[(48, some (9, false))], [0, 1, 2, 3, 4, 5, 6, 7, 8, 9], none⟩,
      ⟨[], [], some (1, 0, true)⟩,
      ⟨[], [], some (0, 0, true)⟩,
      ⟨[(13, some (13, false)), (58, some (10, false))], [0, 1, 2, 3, 4, 5, 6, 7, 8, 9, 10, 13, 14], some (1, 1, true)⟩,
      ⟨[(14, some (14, false)), (59, some (11, false))], [0, 1, 2, 3, 4, 5, 6, 7, 8, 9, 10, 11, 13, 14, 15], some (0, 1, true)⟩,
      ⟨[(60, some (12, false))], [0, 1, 2, 3, 4, 5, 6, 7, 8, 9, 10, 11, 12, 13, 14, 15, 16], none⟩] [_, _, _, _, _] _ rfl rfl ?_
  refine da 1 ?_
  refine dq_write rfl (fun s => .op rfl (.nil)) rfl rfl (fun s hs => loc_callM (pick_spec b _ _ hwa.2 (by omega)) rfl) (by exact .cons (.inr fun _ _ _ => ⟨rfl, rfl⟩) (.cons (.inr fun _ _ _ => ⟨rfl, rfl⟩) (.cons (.inr fun _ _ _ => ⟨rfl, rfl⟩) (.nil)))) ?_
  refine da 5 ?_
  refine dq_choose Prod.fst (fun s t => (t, s.2)) rfl (fun _ _ => ⟨rfl, id, rfl⟩) (fun s => .op rfl (.op rfl (.nil))) rfl rfl (fun s hs => loc_callM (dtape_spec b _ hd2 _ hll hlo) rfl) (by exact .cons (.inl rfl) (.cons (.inr (.inr fun ⟨a, b, c⟩ ⟨d, e, f⟩ h => by have h : d = a ∧ f = c := h; obtain ⟨rfl, rfl⟩ := h; exact rfl)) (.cons (.inr (.inr fun ⟨a, b, c⟩ ⟨d, e, f⟩ h => by have h : d = a ∧ e = b := h; obtain ⟨rfl, rfl⟩ := h; exact rfl)) (.nil)))) (fun _ _ => rfl) ?_
  refine dq_pure rfl (fun s => .op rfl (.op rfl (.op rfl (.op rfl (.op rfl (.nil)))))) (fun s hs _ => loc_call (rbegin_spec _ sc (headT tb) _ _) rfl) (by exact .cons (.inl rfl) (.cons (.inr fun ⟨a, b, c⟩ ⟨d, e, f⟩ h => by have h : d = a ∧ f = c := h; obtain ⟨rfl, rfl⟩ := h; exact rfl) (.cons (.inr fun ⟨a, b, c⟩ ⟨d, e, f⟩ h => by have h : d = a ∧ e = b := h; obtain ⟨rfl, rfl⟩ := h; exact rfl) (.nil)))) ?_
  refine da 4 ?_
  refine dq_choose (fun s => s.2.1) (fun s t => (s.1, t, s.2.2)) rfl (fun _ _ => ⟨rfl, id, ⟨rfl, rfl⟩⟩) (fun s => .nil) rfl rfl (fun s hs => locM_new (loc_allocOwn (by simp))) (by exact .cons (.inr (.inr fun ⟨a, b, c⟩ ⟨d, e, f⟩ h => by have h : (e, f) = (b, c) := h; cases h; exact rfl)) (.cons (.inl rfl) (.cons (.inr (.inr fun ⟨a, b, c⟩ ⟨d, e, f⟩ h => by have h : d = a ∧ e = b := h; obtain ⟨rfl, rfl⟩ := h; exact rfl)) (.nil)))) (fun _ _ => rfl) ?_
  refine dq_choose (fun s => s.2.2) (fun s t => (s.1, s.2.1, t)) rfl (fun _ _ => ⟨rfl, id, ⟨rfl, rfl⟩⟩) (fun s => .nil) rfl rfl (fun s hs => locM_new (loc_allocOwn (by simp))) (by exact .cons (.inr (.inr fun ⟨a, b, c⟩ ⟨d, e, f⟩ h => by have h : (e, f) = (b, c) := h; cases h; exact rfl)) (.cons (.inr (.inr fun ⟨a, b, c⟩ ⟨d, e, f⟩ h => by have h : d = a ∧ f = c := h; obtain ⟨rfl, rfl⟩ := h; exact rfl)) (.cons (.inl rfl) (.nil)))) (fun _ _ => rfl) ?_
  refine dq_write0 rfl (fun s => .op rfl (.op rfl (.nil))) rfl rfl (fun s hs => loc_storeN (ho := (by show OneAll [_, _, _, _, _, _, _, _, _, _, _, _, _, _, _]; infer_instance)) rfl rfl rfl) (by exact .cons (.inl rfl) (.cons (.inl rfl) (.cons (.inl rfl) (.nil)))) ?_
  refine dq_write0 rfl (fun s => .op rfl (.op rfl (.nil))) rfl rfl (fun s hs => loc_storeN (ho := (by show OneAll [_, _]; infer_instance)) rfl rfl rfl) (by exact .cons (.inl rfl) (.cons (.inl rfl) (.cons (.inl rfl) (.nil)))) ?_
  refine da 1 ?_
  refine dq_end (rs := [_, _, _, _, _]) ((⟨[], 0⟩, d), 0, 0) rfl (fun _ => rfl) (.cons rfl (.cons rfl (.cons rfl (.nil)))) rfl (fun _ => rfl) (fun s9 h9 => ?_)
  obtain ⟨tq, b13, b14⟩ := s9
  obtain ⟨htq, _, _⟩ := Ch.three_good rfl rfl rfl h9
  dsimp only [outG, outM, List.map, List.set, id]
  refine au 1 ?_
  dsimp only at htq
  have ht1 := htq.1
  rw [htp] at ht1
  have hv0 := Dc.val_nonneg (d := wa.2) (n := 3) (by omega)
  have hv3 := Dc.val_lt (d := wa.2) (n := 3) (by omega)
  generalize hRd : (bgR (wa.2.val 3) sc (headT tb) wa.1 tq.1) = R
  obtain ⟨hR1, hR2, hR3, hsent, hgot⟩ := got_ok hs hp ht hwa.1 hv0 ht1 hRd.symm
  have hrn : R.queries.length ≤ 1000 ∧ ∀ q ∈ R.queries, q.length ≤ 1000 ∧ ∀ x ∈ q, x.length ≤ 100000 := ⟨hgot.1.1.2.1, hgot.1.1.2.2.1⟩
  have hrd3 : 0 ≤ R.read ∧ R.read ≤ 2 := by rw [hR1]; omega
  have hNl : (notesN R.read R.head.number R.queries R.queries.length).length ≤ 100 := by have := hgot.2.2.1; rw [List.length_map] at this; omega
  refine au 7 ?_
  refine run_op (loc_call (rnotes_spec R hrn) rfl) rfl ?_
  first | refine runL_fact (s := 62) rfl (fun _ _ h => dSl_len h) (fun hlen8 => ?_) | skip
  refine au 4 ?_
  refine run_rowNil 46 8 cNte ?_
  refine run_loopF (σ := Value × Nat) (ks := [4, 5, 6, 13, 62, 63]) (.cons rfl (.cons rfl (.cons rfl (.cons rfl (.cons rfl (.cons rfl (.nil))))))) (fun q => [(16, dVal q.1), (64, dInt .i64 (q.2 : Nat))]) (fun q => [rRow q.1 46 8 cNte (((notesN R.read R.head.number R.queries R.queries.length).take q.2).map (ansN sc tb))]) (fun q => q.2 ≤ (notesN R.read R.head.number R.queries R.queries.length).length) (fun q => (notesN R.read R.head.number R.queries R.queries.length).length - q.2) ((.slice none 0 0, 0)) (Nat.zero_le _) (.cons rfl (by first | exact fun _ _ h => h | exact d_int (by omega) | exact d_int (by simp) | exact d_intN (by omega) | exact d_any) (.cons rfl (by first | exact fun _ _ h => h | exact d_int (by omega) | exact d_int (by simp) | exact d_intN (by omega) | exact d_any) .nil)) (rfl) ?_
  intro q hq ih9
  refine au 5 ?_
  refine run_cond rfl (fun h10 => ?_) (fun h10 => ?_)
  ·
   have hql : q.2 < (notesN R.read R.head.number R.queries R.queries.length).length := by omega
   have hsn := hsent q.2 hql
   obtain ⟨hnw, hask⟩ := srvJ_start hsn
   have hw1 := (checkT_ok ht.1).2.2.1
   have hk0 := (okI_new hs.1 (id := ((notesN R.read R.head.number R.queries R.queries.length)[q.2]?.getD default).server) hsn.1.hid).2.2
   have hk1 := okI_load (t := tb) hk0
   have hqz : ((notesN R.read R.head.number R.queries R.queries.length)[q.2]?.getD default).query.length ≤ 100000 := by have h1 := (hld_sz hsn.1.hv hsn.1.ht hsn.1.hr hsn.1.hid).1; have h2 := hsn.2.2.1.1; omega
   have hbid := hsn.1.hid
   have hbi2 := hsn.2.1
   refine au 5 ?_
   first | refine run_op (loc_index rfl rfl (by first | omega | assumption | (simp; omega))) rfl ?_ | refine run_op (loc_indexI rfl rfl (by first | omega | assumption | (simp; omega))) rfl ?_
   refine au 1 ?_
   refine run_new (loc_allocOwn (by simp)) rfl (fun b11 _ => ?_)
   refine au 7 ?_
   refine run_op (loc_call (rsnew_spec _ _) rfl) rfl ?_
   refine au 3 ?_
   refine run_new (loc_allocOwn (by simp)) rfl (fun b19 _ => ?_)
   refine au 7 ?_
   refine run_op (loc_call (rload_spec _ tb hk0) rfl) rfl ?_
   refine au 9 ?_
   refine run_op (loc_call (rask_spec _ _ hk1 hqz) rfl) rfl ?_
   refine au 10 ?_
   refine run_front (.here) ?_
   refine run_front (.there (.there (.here))) ?_
   refine run_loopF (σ := Value × Nat) (ks := [4, 5, 6, 13, 18, 19, 62, 63, 64]) (.cons rfl (.cons rfl (.cons rfl (.cons rfl (.cons rfl (.cons rfl (.cons rfl (.cons rfl (.cons rfl (.nil)))))))))) (fun u => [(16, dVal u.1), (21, dInt .i64 (u.2 : Nat))]) (fun u => [rRow u.1 46 8 cNte (outJ sc tb (notesN R.read R.head.number R.queries R.queries.length) q.2 u.2), rCells b19 36 (cSrv (srvJ sc tb ((notesN R.read R.head.number R.queries R.queries.length)[q.2]?.getD default) u.2))]) (fun u => u.2 ≤ tb.width.toNat) (fun u => tb.width.toNat - u.2) ((q.1, 0)) (Nat.zero_le _) (.cons rfl (by first | exact fun _ _ h => h | exact d_int (by omega) | exact d_int (by simp) | exact d_intN (by omega) | exact d_any) (.cons rfl (by first | exact fun _ _ h => h | exact d_int (by omega) | exact d_int (by simp) | exact d_intN (by omega) | exact d_any) .nil)) (by rw [← hask, (outJ_next (sc := sc) (tb := tb) (j := 0) hql).2.2 (by omega)]; rfl) ?_
   intro u hu ih12
   refine au 8 ?_
   refine run_cond rfl (fun h13 => ?_) (fun h13 => ?_)
   ·
    have hul : (u.2 : Int) < tb.width := by omega
    have hk2 := srvJ_job hsn hul
    obtain ⟨hw2, hw3, hw4⟩ := srvJ_word hsn hul
    have hpl := people_len
    have hpe : peopleL[(((notesN R.read R.head.number R.queries R.queries.length)[q.2]?.getD default).server - 1).toNat]?.getD default = (⟨((notesN R.read R.head.number R.queries R.queries.length)[q.2]?.getD default).server, 1000 + ((notesN R.read R.head.number R.queries R.queries.length)[q.2]?.getD default).server⟩ : Psn) := by rw [people_get (by omega)]; unfold prs; rw [show (((((notesN R.read R.head.number R.queries R.queries.length)[q.2]?.getD default).server - 1).toNat : Nat) : Int) + 1 = ((notesN R.read R.head.number R.queries R.queries.length)[q.2]?.getD default).server by omega]
    have hol : (outJ sc tb (notesN R.read R.head.number R.queries R.queries.length) q.2 u.2).length ≤ 100 := by rw [(outJ_next hql).2.2 hul, List.length_map, List.length_take]; omega
    refine au 4 ?_
    refine run_addNone ?_
    refine run_addNone ?_
    refine dr_start _ (.two (τ1 := Nat) (τ2 := Nat) 13 14 (fun _ => True) (fun _ => True)) [⟨[(19, none)], [], some (3, 0, false)⟩,
        ⟨[], [], none⟩,
        ⟨[(18, none)], [], none⟩,
        ⟨[(96, some (2, false))], [2], some (4, 0, false)⟩,
        ⟨[(97, some (3, false))], [2, 3], none⟩,
        ⟨[(95, some (1, false)), (98, some (4, false))], [1, 2, 3, 4], none⟩,
        ⟨[(99, some (5, false))], [1, 2, 3, 4, 5], none⟩,
        ⟨[(94, some (0, false)), (100, some (6, false))], [0, 1, 2, 3, 4, 5, 6], none⟩,
        ⟨[(101, some (7, false))], [0, 1, 2, 3, 4, 5, 6, 7], none⟩,
        ⟨[(93, some (8, false))], [0, 1, 2, 3, 4, 5, 6, 7, 8], none⟩,
        ⟨[(93, some (8, false))], [0, 1, 2, 3, 4, 5, 6, 7, 8], none⟩,
        ⟨[(93, some (8, false))], [0, 1, 2, 3, 4, 5, 6, 7, 8], none⟩,
        ⟨[(93, some (8, false))], [0, 1, 2, 3, 4, 5, 6, 7, 8], none⟩,
        ⟨[], [], some (1, 0, true)⟩,
        ⟨[], [], some (0, 0, true)⟩,
        ⟨[(22, some (13, false)), (102, some (9, false))], [0, 1, 2, 3, 4, 5, 6, 7, 8, 9, 13, 14], some (1, 1, true)⟩,
        ⟨[(23, some (14, false)), (103, some (10, false))], [0, 1, 2, 3, 4, 5, 6, 7, 8, 9, 10, 13, 14, 15], some (0, 1, true)⟩,
        ⟨[(104, some (11, false))], [0, 1, 2, 3, 4, 5, 6, 7, 8, 9, 10, 11, 13, 14, 15, 16], none⟩,
        ⟨[(105, some (12, false))], [0, 1, 2, 3, 4, 5, 6, 7, 8, 9, 10, 11, 12, 13, 14, 15, 16, 17], none⟩] [_, _, _, _, _, _, _, _, _, _] _ rfl rfl ?_
    refine da 1 ?_
    refine dq_pure rfl (fun s => .nil) (fun s hs _ => loc_call (people_spec) rfl) (by exact .cons (.inr fun _ _ _ => rfl) (.cons (.inr fun _ _ _ => rfl) (.nil))) ?_
    refine da 2 ?_
    first | refine dq_pure rfl (fun s => .op rfl (.nil)) (fun s hs _ => loc_sub rfl rfl (by first | omega | assumption | (simp; omega))) (by exact .cons (.inr fun _ _ _ => rfl) (.cons (.inr fun _ _ _ => rfl) (.nil))) ?_ | refine dq_pure rfl (fun s => .op rfl (.nil)) (fun s hs _ => loc_subW rfl rfl) (by exact .cons (.inr fun _ _ _ => rfl) (.cons (.inr fun _ _ _ => rfl) (.nil))) ?_
    first | refine dq_pure rfl (fun s => .op rfl (.op rfl (.nil))) (fun s hs _ => loc_index rfl rfl (by first | omega | assumption | (simp; omega))) (by exact .cons (.inr fun _ _ _ => rfl) (.cons (.inr fun _ _ _ => rfl) (.nil))) ?_ | refine dq_pure rfl (fun s => .op rfl (.op rfl (.nil))) (fun s hs _ => loc_indexI rfl rfl (by first | omega | assumption | (simp; omega))) (by exact .cons (.inr fun _ _ _ => rfl) (.cons (.inr fun _ _ _ => rfl) (.nil))) ?_
    refine da 1 ?_
    refine dq_pure rfl (fun s => .op rfl (.op rfl (.nil))) (fun s hs _ => loc_call (rwordA_spec _ _ 0 hk2) rfl) (by exact .cons (.inr fun _ _ _ => rfl) (.cons (.inr fun _ _ _ => rfl) (.nil))) ?_
    refine da 5 ?_
    refine dq_choose Prod.fst (fun s t => (t, s.2)) rfl (fun _ _ => ⟨rfl, id, rfl⟩) (fun s => .nil) rfl rfl (fun s hs => locM_new (loc_allocOwn (by simp))) (by exact .cons (.inl rfl) (.cons (.inr (.inr fun ⟨a, b⟩ ⟨c, d⟩ h => by have h : c = a := h; subst h; exact rfl)) (.nil))) (fun _ _ => rfl) ?_
    refine dq_choose Prod.snd (fun s t => (s.1, t)) rfl (fun _ _ => ⟨rfl, id, rfl⟩) (fun s => .nil) rfl rfl (fun s hs => locM_new (loc_allocOwn (by simp))) (by exact .cons (.inr (.inr fun ⟨a, b⟩ ⟨c, d⟩ h => by have h : d = b := h; subst h; exact rfl)) (.cons (.inl rfl) (.nil))) (fun _ _ => rfl) ?_
    refine dq_write0 rfl (fun s => .op rfl (.op rfl (.nil))) rfl rfl (fun s hs => loc_storeN (ho := (by show OneAll [_, _, _, _, _, _, _, _]; infer_instance)) rfl rfl rfl) (by exact .cons (.inl rfl) (.cons (.inl rfl) (.nil))) ?_
    refine dq_write0 rfl (fun s => .op rfl (.op rfl (.nil))) rfl rfl (fun s hs => loc_storeN (ho := (by show OneAll [_, _, _, _, _, _, _, _]; infer_instance)) rfl rfl rfl) (by exact .cons (.inl rfl) (.cons (.inl rfl) (.nil))) ?_
    refine da 2 ?_
    refine dq_end (rs := [_, _, _, _, _, _, _, _, _, _]) (0, 0) rfl (fun _ => rfl) (.cons rfl (.cons rfl (.nil))) rfl (fun _ => rfl) (fun s9 _ => ?_)
    obtain ⟨b14, b15⟩ := s9
    dsimp only [outG, outM, List.map, List.set, id]
    refine au 1 ?_
    rw [hpe, hw2]
    refine au 8 ?_
    refine run_front (.there (.there (.here))) ?_
    refine run_joinF (σ := Value) (ks := [4, 5, 6, 13, 18, 19, 21, 62, 63, 64]) _ (.cons rfl (.cons rfl (.cons rfl (.cons rfl (.cons rfl (.cons rfl (.cons rfl (.cons rfl (.cons rfl (.cons rfl (.nil))))))))))) (fun y => [(16, dVal y)]) (fun y => [rRow y 46 8 cNte (outJ sc tb (notesN R.read R.head.number R.queries R.queries.length) q.2 (u.2 + 1))]) (fun y => True) ⟨[_], rfl⟩ (fun j16 => ?_) ?_
    ·
     refine run_cond rfl (fun h17 => ?_) (fun h17 => ?_)
     ·
      have hj1 := hw3.1 h17
      refine au 3 ?_
      refine run_op (loc_buildSlice rfl rfl (.agg rfl (.nil)) rfl rfl) rfl ?_
      refine run_append1 rfl (.here) rfl (by rfl) (by rfl) (by first | omega | (simp [lenMax]; omega) | (simp [lenMax]; done) | assumption) (by first | omega | (simp [lenMax]; omega) | (simp [lenMax]; done) | assumption) rfl (fun v18 => ?_)
      refine au 2 ?_
      exact run_atF j16 (v18) (trivial) (by rw [hw4 hj1, (outJ_next hql).2.2 hul, (outJ_next hql).1 hj1]) (.cons rfl (by first | exact fun _ _ h => h | exact d_int (by omega) | exact d_int (by simp) | exact d_intN (by omega) | exact d_any) .nil) (.cons rfl (fun _ _ x => x) (.cons rfl (fun _ _ x => x) (.cons rfl (fun _ _ x => x) (.cons rfl (fun _ _ x => x) (.cons rfl (fun _ _ x => x) (.cons rfl (fun _ _ x => x) (.cons rfl (fun _ _ x => x) (.cons rfl (fun _ _ x => x) (.cons rfl (fun _ _ x => x) (.cons rfl (fun _ _ x => x) (.nil)))))))))))
     ·
      have hj1 := fun e => h17 (hw3.2 e)
      refine au 1 ?_
      exact run_atF j16 (u.1) (trivial) (by rw [(outJ_next hql).2.1 hul hj1]) (.cons rfl (by first | exact fun _ _ h => h | exact d_int (by omega) | exact d_int (by simp) | exact d_intN (by omega) | exact d_any) .nil) (.cons rfl (fun _ _ x => x) (.cons rfl (fun _ _ x => x) (.cons rfl (fun _ _ x => x) (.cons rfl (fun _ _ x => x) (.cons rfl (fun _ _ x => x) (.cons rfl (fun _ _ x => x) (.cons rfl (fun _ _ x => x) (.cons rfl (fun _ _ x => x) (.cons rfl (fun _ _ x => x) (.cons rfl (fun _ _ x => x) (.nil)))))))))))
    intro y hy
    refine au 3 ?_
    first | refine run_op (loc_add rfl rfl (by first | omega | assumption | (simp; omega))) rfl ?_ | refine run_op (loc_addW rfl rfl) rfl ?_
    refine au 2 ?_
    refine run_drop (.cons_cons _ (.cons _ (.cons _ (.refl _)))) ?_
    exact run_againF ih12 ((y, u.2 + 1)) (by show u.2 + 1 ≤ tb.width.toNat; omega) (by show tb.width.toNat - (u.2 + 1) < tb.width.toNat - u.2; omega) (.cons rfl (by first | exact fun _ _ h => h | exact d_int (by omega) | exact d_int (by simp) | exact d_intN (by omega) | exact d_any) (.cons rfl (by first | exact fun _ _ h => h | exact d_int (by omega) | exact d_int (by simp) | exact d_intN (by omega) | exact d_any) .nil)) (.cons rfl (fun _ _ x => x) (.cons rfl (fun _ _ x => x) (.cons rfl (fun _ _ x => x) (.cons rfl (fun _ _ x => x) (.cons rfl (fun _ _ x => x) (.cons rfl (fun _ _ x => x) (.cons rfl (fun _ _ x => x) (.cons rfl (fun _ _ x => x) (.cons rfl (fun _ _ x => x) (.nil)))))))))) (rfl)
   ·
    have huw : ¬ (u.2 : Int) < tb.width := by omega
    refine au 3 ?_
    first | refine run_op (loc_add rfl rfl (by first | omega | assumption | (simp; omega))) rfl ?_ | refine run_op (loc_addW rfl rfl) rfl ?_
    refine au 2 ?_
    refine run_drop (.cons_cons _ (.cons _ (.cons _ (.refl _)))) ?_
    exact run_againF ih9 ((u.1, q.2 + 1)) (by show q.2 + 1 ≤ _; omega) (by show _ - (q.2 + 1) < _ - q.2; omega) (.cons rfl (by first | exact fun _ _ h => h | exact d_int (by omega) | exact d_int (by simp) | exact d_intN (by omega) | exact d_any) (.cons rfl (by first | exact fun _ _ h => h | exact d_int (by omega) | exact d_int (by simp) | exact d_intN (by omega) | exact d_any) .nil)) (.cons rfl (fun _ _ x => x) (.cons rfl (fun _ _ x => x) (.cons rfl (fun _ _ x => x) (.cons rfl (fun _ _ x => x) (.cons rfl (fun _ _ x => x) (.cons rfl (fun _ _ x => x) (.nil))))))) (by rw [show outJ sc tb (notesN R.read R.head.number R.queries R.queries.length) q.2 u.2 = ((notesN R.read R.head.number R.queries R.queries.length).take (q.2 + 1)).map (ansN sc tb) from if_neg huw])
  ·
   refine au 2 ?_
   rw [List.take_of_length_le (show (notesN R.read R.head.number R.queries R.queries.length).length ≤ q.2 by omega)]
   refine run_freezeRow (s := 16) rfl (.here) ?_
   refine au 6 ?_
   refine run_retG ((R, (notesN R.read R.head.number R.queries R.queries.length).map (ansN sc tb), tq.2)) Tryz.func37 rfl (.cellN rfl (.there (.there (.there (.here)))) (by rfl) (.tmp rfl (.nil))) ?_ (⟨hgot, ⟨hR3, hR2, hrd3⟩, htq.2⟩) (fun _ _ h => h.sub (.cons _ (.cons _ (.cons _ (.cons _ (.cons_cons _ (.refl _)))))))
   exact fun _ _ h => h
end Go.Q

namespace Go.Q
open Go.Proofs
open Classical
theorem dice_okO {xs : List Int} (h : ∀ x ∈ xs, 0 ≤ x ∧ x ≤ 255) : okDc ⟨xs.take 300, 0⟩ := ⟨fun x hm => h x (List.mem_of_mem_take hm), by simp; omega⟩
theorem readerOrder_spec (xs : List Int) (hx : ∀ x ∈ xs, 0 ≤ x ∧ x ≤ 255) : SpecP Tryz.prog 5 [dBy xs] (dB True) := by
  refine specP_of_body Tryz.func5 rfl rfl (fun I M => ?_)
  refine au 7 ?_
  refine run_op (loc_call (sane32_spec) rfl) rfl ?_
  refine au 2 ?_
  refine run_cond rfl (fun h1 => ?_) (fun h1 => ?_)
  · exfalso; exact h1 trivial
  ·
   refine au 4 ?_
   refine run_callN rfl (dnew_spec _) rfl (fun bd hbd => ?_)
   refine au 5 ?_
   refine run_callM rfl (.here) (dscheme_spec bd _ (dice_okO hx)) rfl (fun sc hsc => ?_)
   refine run_new (loc_allocOwn (by simp)) rfl (fun b2 _ => ?_)
   refine au 6 ?_
   refine run_callM rfl (.there (.here)) (dfield_spec bd _ hsc.2) rfl (fun fd hfd => ?_)
   refine run_callM rfl (.there (.here)) (dtable_spec bd _ hfd.2 fd.1 hfd.1) rfl (fun tb htb => ?_)
   refine run_new (loc_allocOwn (by simp)) rfl (fun b3 _ => ?_)
   refine au 7 ?_
   refine run_callM rfl (.there (.there (.here))) (dreader_spec bd _ htb.2 _ _ _ hsc.1 hfd.1 htb.1) rfl (fun rr hrr => ?_)
   refine au 3 ?_
   refine run_new (loc_allocOwn (by simp)) rfl (fun b6 _ => ?_)
   refine au 4 ?_
   have hgot := hrr.1
   have hrl := hgot.2.2.1
   have hhd := hrr.2.1.1
   have hhr := hrr.2.1.2.2
   have htn := htb.1.2.2.2.1
   have hhp : rr.1.head.p = tb.1.p := by rw [hhd, head_ok htb.1.1]
   have hhn : rr.1.head.number = tb.1.number := by rw [hhd, head_ok htb.1.1]
   refine au 2 ?_
   refine run_new (loc_allocOwn (by simp)) rfl (fun b8 _ => ?_)
   refine au 6 ?_
   first | refine runL_fact (s := 35) rfl (fun _ _ h => dSl_len h) (fun hlen4 => ?_) | skip
   refine au 4 ?_
   refine run_front (.here) ?_
   refine run_front (.there (.here)) ?_
   refine run_loopF (σ := Nat) (ks := [3, 5, 6, 7, 8, 36]) (.cons rfl (.cons rfl (.cons rfl (.cons rfl (.cons rfl (.cons rfl (.nil))))))) (fun k => [(37, dInt .i64 (k : Nat))]) (fun k => [rCells b6 76 (cRdr (foldN rr.1 (rr.2.1.take k))), rCells b8 76 (cRdr (foldN rr.1 (rr.2.1.reverse.take k)))]) (fun k => k ≤ rr.2.1.length) (fun k => rr.2.1.length - k) (0) (Nat.zero_le _) (.cons rfl (by first | exact fun _ _ h => h | exact d_int (by omega) | exact d_int (by simp) | exact d_intN (by omega) | exact d_any) .nil) (rfl) ?_
   intro k hk ih5
   refine au 5 ?_
   refine run_cond rfl (fun h6 => ?_) (fun h6 => ?_)
   ·
    have hkl : k < rr.2.1.length := by omega
    obtain ⟨a1, a2, a3, a4⟩ := got_take hgot hkl
    obtain ⟨b1, b2, b3, b4⟩ := got_take (got_rev hgot) (by rw [List.length_reverse]; exact hkl)
    rw [rev_at hkl] at b2 b3 b4
    refine au 9 ?_
    refine run_addNone ?_
    refine dr_start _ (.one (σ := Nat) 10 (fun _ => True)) [⟨[(6, none)], [], some (1, 0, false)⟩,
        ⟨[], [], none⟩,
        ⟨[(7, none)], [], none⟩,
        ⟨[(9, none)], [], none⟩,
        ⟨[(43, some (2, false)), (44, some (3, false))], [2, 3], none⟩,
        ⟨[(45, some (4, false))], [2, 3, 4], none⟩,
        ⟨[(41, some (0, false)), (42, some (1, false)), (46, some (5, false))], [0, 1, 2, 3, 4, 5], none⟩,
        ⟨[(47, some (6, false))], [0, 1, 2, 3, 4, 5, 6], none⟩,
        ⟨[(40, some (7, false))], [0, 1, 2, 3, 4, 5, 6, 7], none⟩,
        ⟨[(40, some (7, false))], [0, 1, 2, 3, 4, 5, 6, 7], none⟩,
        ⟨[], [], some (0, 0, true)⟩,
        ⟨[(10, some (10, false)), (48, some (8, false))], [0, 1, 2, 3, 4, 5, 6, 7, 8, 10], some (0, 1, true)⟩,
        ⟨[(49, some (9, false))], [0, 1, 2, 3, 4, 5, 6, 7, 8, 9, 10, 11], none⟩] [_, _, _, _, _, _] _ rfl rfl ?_
    refine da 1 ?_
    refine dq_pure rfl (fun s => .nil) (fun s hs _ => loc_call (people_spec) rfl) (by exact .cons (.inr fun _ _ _ => rfl) (.nil)) ?_
    refine da 4 ?_
    refine dq_pure rfl (fun s => .op rfl (.op rfl (.op rfl (.nil)))) (fun s hs _ => loc_call (take_spec _ _ a1 a4) rfl) (by exact .cons (.inr fun _ _ _ => rfl) (.nil)) ?_
    refine da 3 ?_
    refine dq_choose id (fun _ t => t) rfl (fun _ _ => ⟨rfl, id, trivial⟩) (fun s => .nil) rfl rfl (fun s hs => locM_new (loc_allocOwn (by simp))) (by exact .cons (.inl rfl) (.nil)) (fun _ _ => rfl) ?_
    refine dq_write0 rfl (fun s => .op rfl (.op rfl (.nil))) rfl rfl (fun s hs => loc_storeN (ho := (by show OneAll [_, _, _, _, _, _, _, _, _, _, _, _, _, _, _]; infer_instance)) rfl rfl rfl) (by exact .cons (.inl rfl) (.nil)) ?_
    refine da 1 ?_
    refine dq_end (rs := [_, _, _, _, _, _]) 0 rfl (fun _ => rfl) (.cons rfl (.nil)) rfl (fun _ => rfl) (fun b7 _ => ?_)
    dsimp only [outG, outM, List.map, List.set, id]
    refine au 1 ?_
    refine run_addNone ?_
    refine dr_start _ (.one (σ := Nat) 14 (fun _ => True)) [⟨[(8, none)], [], some (3, 0, false)⟩,
        ⟨[], [], none⟩,
        ⟨[(7, none)], [], none⟩,
        ⟨[(7, none)], [], none⟩,
        ⟨[(54, some (3, false))], [3], none⟩,
        ⟨[(55, some (4, false))], [3, 4], none⟩,
        ⟨[(9, none)], [], none⟩,
        ⟨[(56, some (5, false)), (57, some (6, false))], [3, 4, 5, 6], none⟩,
        ⟨[(53, some (2, false)), (58, some (7, false))], [2, 3, 4, 5, 6, 7], none⟩,
        ⟨[(59, some (8, false))], [2, 3, 4, 5, 6, 7, 8], none⟩,
        ⟨[(51, some (0, false)), (52, some (1, false)), (60, some (9, false))], [0, 1, 2, 3, 4, 5, 6, 7, 8, 9], none⟩,
        ⟨[(61, some (10, false))], [0, 1, 2, 3, 4, 5, 6, 7, 8, 9, 10], none⟩,
        ⟨[(50, some (11, false))], [0, 1, 2, 3, 4, 5, 6, 7, 8, 9, 10, 11], none⟩,
        ⟨[(50, some (11, false))], [0, 1, 2, 3, 4, 5, 6, 7, 8, 9, 10, 11], none⟩,
        ⟨[], [], some (0, 0, true)⟩,
        ⟨[(12, some (14, false)), (62, some (12, false))], [0, 1, 2, 3, 4, 5, 6, 7, 8, 9, 10, 11, 12, 14], some (0, 1, true)⟩,
        ⟨[(63, some (13, false))], [0, 1, 2, 3, 4, 5, 6, 7, 8, 9, 10, 11, 12, 13, 14, 15], none⟩] [_, _, _, _, _, _, _] _ rfl rfl ?_
    refine da 1 ?_
    refine dq_pure rfl (fun s => .nil) (fun s hs _ => loc_call (people_spec) rfl) (by exact .cons (.inr fun _ _ _ => rfl) (.nil)) ?_
    refine da 8 ?_
    refine dq_pure rfl (fun s => .op rfl (.op rfl (.op rfl (.nil)))) (fun s hs _ => loc_call (take_spec _ _ b1 b4) rfl) (by exact .cons (.inr fun _ _ _ => rfl) (.nil)) ?_
    refine da 3 ?_
    refine dq_choose id (fun _ t => t) rfl (fun _ _ => ⟨rfl, id, trivial⟩) (fun s => .nil) rfl rfl (fun s hs => locM_new (loc_allocOwn (by simp))) (by exact .cons (.inl rfl) (.nil)) (fun _ _ => rfl) ?_
    refine dq_write0 rfl (fun s => .op rfl (.op rfl (.nil))) rfl rfl (fun s hs => loc_storeN (ho := (by show OneAll [_, _, _, _, _, _, _, _, _, _, _, _, _, _, _]; infer_instance)) rfl rfl rfl) (by exact .cons (.inl rfl) (.nil)) ?_
    refine da 1 ?_
    refine dq_end (rs := [_, _, _, _, _, _, _]) 0 rfl (fun _ => rfl) (.cons rfl (.nil)) rfl (fun _ => rfl) (fun b8 _ => ?_)
    dsimp only [outG, outM, List.map, List.set, id]
    refine au 11 ?_
    refine run_cond rfl (fun h9 => ?_) (fun h9 => ?_)
    · exfalso; exact h9.elim (fun h => h a2) (fun h => h b2)
    ·
     refine au 1 ?_
     refine dr_start _ (.none) [⟨[(10, none)], [], some (1, 0, false)⟩,
         ⟨[(12, none)], [], some (0, 0, false)⟩,
         ⟨[(6, none), (70, some (0, false))], [0], some (2, 0, true)⟩,
         ⟨[(8, none), (71, some (1, false))], [0, 1, 2], some (3, 0, true)⟩] [_, _, _, _, _, _, _] _ rfl rfl ?_
     refine da 2 ?_
     refine dq_write0 rfl (fun s => .g rfl (.op rfl (.nil))) rfl rfl (fun s hs => loc_storeN (ho := (by show OneAll [_, _, _, _, _, _, _, _, _, _, _, _, _, _, _]; infer_instance)) rfl rfl rfl) (by exact .nil) ?_
     refine dq_write0 rfl (fun s => .g rfl (.op rfl (.nil))) rfl rfl (fun s hs => loc_storeN (ho := (by show OneAll [_, _, _, _, _, _, _, _, _, _, _, _, _, _, _]; infer_instance)) rfl rfl rfl) (by exact .nil) ?_
     refine dq_end (rs := [_, _, _, _, _, _, _]) () rfl (fun _ => rfl) (.nil) rfl (fun _ => rfl) (fun _ _ => ?_)
     dsimp only [outG, outM, List.map, List.set, id]
     refine au 5 ?_
     refine run_drop (.cons _ (.cons _ (.refl _))) ?_
     exact run_againF ih5 (k + 1) (by omega) (by omega) (.cons rfl (by first | exact fun _ _ h => h | exact d_int (by omega) | exact d_int (by simp) | exact d_intN (by omega) | exact d_any) .nil) (.cons rfl (fun _ _ x => x) (.cons rfl (fun _ _ x => x) (.cons rfl (fun _ _ x => x) (.cons rfl (fun _ _ x => x) (.cons rfl (fun _ _ x => x) (.cons rfl (fun _ _ x => x) (.nil))))))) (by rw [a3, b3]; rfl)
   ·
    refine au 3 ?_
    have hk9 : k = rr.2.1.length := by omega
    rw [hk9, show rr.2.1.reverse.take rr.2.1.length = rr.2.1.reverse by rw [← List.length_reverse, List.take_length], List.take_length, got_end hgot]
    refine au 3 ?_
    refine run_op (loc_call (same32_spec _) rfl) rfl ?_
    refine au 2 ?_
    refine run_cond rfl (fun h10 => ?_) (fun h10 => ?_)
    · exfalso; exact h10 trivial
    ·
     refine au 2 ?_
     have hv1 := Dc.val_lt (d := rr.2.2) (n := (rr.2.1.length : Int)) (by omega)
     have hv2 := Dc.val_nonneg (d := rr.2.2) (n := (rr.2.1.length : Int)) (by omega)
     obtain ⟨hn1, hn2, hn3, hn4, hn5, hn6, hn7⟩ := hgot.2.2.2.2 (rr.2.1[(rr.2.2.val (rr.2.1.length : Int)).toNat]?.getD default) (getD_mem (by omega))
     have hnv : (rr.2.1[(rr.2.2.val (rr.2.1.length : Int)).toNat]?.getD default).version = tb.1.number := hn1.2.2.1.trans hhn
     have hnr : (rr.2.1[(rr.2.2.val (rr.2.1.length : Int)).toNat]?.getD default).read = rr.1.read := hn1.2.1
     have hns : 1 ≤ (rr.2.1[(rr.2.2.val (rr.2.1.length : Int)).toNat]?.getD default).server ∧ (rr.2.1[(rr.2.2.val (rr.2.1.length : Int)).toNat]?.getD default).server ≤ 10 := by
       have h1 := hn1.2.2.2.2.1
       have h2 := hn1.2.2.2.1
       have h3 := hgot.1.2.1 _ (getD_mem (xs := rr.1.queries) (k := (rr.2.1[(rr.2.2.val (rr.2.1.length : Int)).toNat]?.getD default).probe.toNat) (by omega))
       omega
     have hq0 := hn7 _ (getD_mem (xs := (rr.2.1[(rr.2.2.val (rr.2.1.length : Int)).toNat]?.getD default).query) (k := 0) (by omega))
     have hp0 := (dieP_ok hfd.1).2
     have hp9 : tb.1.p = fd.1 := htb.1.2.1
     rw [hhp] at hq0
     obtain ⟨hq1, hq2⟩ := hq0
     refine au 4 ?_
     first | refine runL_fact (s := 79) rfl (fun _ _ h => dSl_len h) (fun hlen11 => ?_) | skip
     refine au 1 ?_
     refine run_callM rfl (.there (.there (.there (.there (.here))))) (pick_spec bd _ _ hrr.2.2 (by omega)) rfl (fun s12 hs12 => ?_)
     refine au 2 ?_
     refine run_new (loc_allocOwn (by simp)) rfl (fun b14 _ => ?_)
     refine au 6 ?_
     refine run_callM rfl (.there (.there (.there (.there (.there (.here)))))) (pick_spec bd _ _ (Dc.next_ok hrr.2.2) (by omega)) rfl (fun s13 hs13 => ?_)
     refine au 1 ?_
     refine run_joinF (σ := Nte) (ks := [6, 14]) _ (.cons rfl (.cons rfl (.nil))) (fun y => []) (fun y => [rCells b14 46 (cNte y)]) (fun y => ¬ fitsR rr.1 y ∧ (0 ≤ y.server ∧ y.server ≤ 10) ∧ y.query.length ≤ 100000 ∧ y.values.length ≤ 100000) ⟨[_], rfl⟩ (fun j14 => ?_) ?_
     ·
      refine au 6 ?_
      refine run_cond rfl (fun h15 => ?_) (fun h15 => ?_)
      ·
       refine au 8 ?_
       exact run_atF j14 ({ (rr.2.1[(rr.2.2.val (rr.2.1.length : Int)).toNat]?.getD default) with version := (rr.2.1[(rr.2.2.val (rr.2.1.length : Int)).toNat]?.getD default).version + 1 }) (⟨bad_ver hn1, ⟨by show (0 : Int) ≤ (rr.2.1[(rr.2.2.val (rr.2.1.length : Int)).toNat]?.getD default).server; omega, by show (rr.2.1[(rr.2.2.val (rr.2.1.length : Int)).toNat]?.getD default).server ≤ 10; omega⟩, hn4, hn5⟩) (rfl) (.nil) (.cons rfl (fun _ _ x => x) (.cons rfl (fun _ _ x => x) (.nil)))
      ·
       refine au 5 ?_
       refine run_cond rfl (fun h16 => ?_) (fun h16 => ?_)
       ·
        refine au 8 ?_
        exact run_atF j14 ({ (rr.2.1[(rr.2.2.val (rr.2.1.length : Int)).toNat]?.getD default) with read := (rr.2.1[(rr.2.2.val (rr.2.1.length : Int)).toNat]?.getD default).read + 1 }) (⟨bad_read hn1, ⟨by show (0 : Int) ≤ (rr.2.1[(rr.2.2.val (rr.2.1.length : Int)).toNat]?.getD default).server; omega, by show (rr.2.1[(rr.2.2.val (rr.2.1.length : Int)).toNat]?.getD default).server ≤ 10; omega⟩, hn4, hn5⟩) (rfl) (.nil) (.cons rfl (fun _ _ x => x) (.cons rfl (fun _ _ x => x) (.nil)))
       ·
        refine au 2 ?_
        refine run_new (loc_build0 fI) rfl (fun b17 _ => ?_)
        refine au 2 ?_
        refine run_append rfl (.here) rfl (by rfl) (by first | omega | (simp [lenMax]; omega) | (simp [lenMax]; done) | assumption) (by first | omega | (simp [lenMax]; omega) | (simp [lenMax]; done) | assumption) rfl (fun v18 => ?_)
        refine runL_rowV (s := 89) rfl (.here) ?_
        refine au 3 ?_
        rw [List.nil_append]
        refine run_rowForm (.here) (by omega) (fun bq cq hq => ?_)
        subst hq
        refine dr_start _ (.none) [⟨[(14, none)], [], none⟩,
            ⟨[(91, some (0, false))], [0], some (1, 0, false)⟩,
            ⟨[(14, none)], [], none⟩,
            ⟨[(93, some (2, false))], [2], some (1, 0, false)⟩,
            ⟨[(94, some (3, false))], [2, 3], none⟩,
            ⟨[(95, some (4, false))], [2, 3, 4], some (0, 0, false)⟩,
            ⟨[(96, some (5, false))], [2, 3, 4, 5], none⟩,
            ⟨[(5, none)], [], none⟩,
            ⟨[(98, some (7, false))], [7], none⟩,
            ⟨[(99, some (8, false))], [7, 8], some (4, 0, false)⟩,
            ⟨[(97, some (6, false)), (100, some (9, false))], [2, 3, 4, 5, 6, 7, 8, 9], none⟩,
            ⟨[(92, some (1, false))], [0, 1, 2, 3, 4, 5, 6, 7, 8, 9, 10], none⟩,
            ⟨[(102, some (11, false)), (101, some (10, false))], [0, 1, 2, 3, 4, 5, 6, 7, 8, 9, 10, 11], some (0, 0, true)⟩] [_, _, _, _, _, _, _] _ rfl rfl ?_
        refine da 1 ?_
        first | refine dq_read rfl (fun s => .op rfl (.nil)) rfl rfl (fun s hs _ hm => LocP.upV (loc_loadOwn1 rfl hm (by rfl))) (by exact .nil) ?_ | refine dq_read rfl (fun s => .op rfl (.nil)) rfl rfl (fun s hs _ hm => loc_loadOwn1 rfl hm (by rfl)) (by exact .nil) ?_
        refine da 1 ?_
        first | refine dq_read rfl (fun s => .op rfl (.nil)) rfl rfl (fun s hs _ hm => LocP.upV (loc_loadOwn1 rfl hm (by rfl))) (by exact .nil) ?_ | refine dq_read rfl (fun s => .op rfl (.nil)) rfl rfl (fun s hs _ hm => loc_loadOwn1 rfl hm (by rfl)) (by exact .nil) ?_
        refine dq_pure rfl (fun s => .op rfl (.nil)) (fun s hs _ => loc_indexRow (i := 0) rfl rfl (by omega)) (by exact .nil) ?_
        refine da 7 ?_
        refine dq_write0 rfl (fun s => .op rfl (.op rfl (.nil))) rfl rfl (fun s hs => loc_storeRow1 _ rfl rfl rfl (by first | omega | assumption)) (by exact .nil) ?_
        refine dq_end (rs := [_, _, _, _, _, _, _]) () rfl (fun _ => rfl) (.nil) rfl (fun _ => rfl) (fun _ _ => ?_)
        dsimp only [outG, outM, List.map, List.set, id]
        refine au 1 ?_
        first | refine run_freezeRowCellV (kk := 5) (.here) (.here) rfl ?_ | refine run_freezeRowCell (kk := 5) (.here) (.here) rfl ?_
        exact run_atF j14 ({ (rr.2.1[(rr.2.2.val (rr.2.1.length : Int)).toNat]?.getD default) with query := (rr.2.1[(rr.2.2.val (rr.2.1.length : Int)).toNat]?.getD default).query.set 0 (((rr.2.1[(rr.2.2.val (rr.2.1.length : Int)).toNat]?.getD default).query[0]?.getD default + 1) % rr.1.head.p) }) (⟨bad_query hn1 hn6 hn7, ⟨by show (0 : Int) ≤ (rr.2.1[(rr.2.2.val (rr.2.1.length : Int)).toNat]?.getD default).server; omega, by show (rr.2.1[(rr.2.2.val (rr.2.1.length : Int)).toNat]?.getD default).server ≤ 10; omega⟩, (by rw [List.length_set]; exact hn4), hn5⟩) (by rw [hhp]; rfl) (.nil) (.cons rfl (fun _ _ x => x) (.cons rfl (fun _ _ x => x) (.nil)))
     rintro y ⟨hy1, hy2, hy3⟩
     refine au 3 ?_
     refine run_op (loc_call (pmark_spec y hy3 (by omega)) rfl) rfl ?_
     refine au 4 ?_
     have hyb : ¬ fitsR rr.1 { y with mark := signM (1000 + y.server) (numsN y) } := hy1
     refine run_addNone ?_
     refine dr_start _ (.one (σ := Nat) 7 (fun _ => True)) [⟨[(6, none)], [], some (2, 0, false)⟩,
         ⟨[], [], none⟩,
         ⟨[(14, none)], [], some (1, 0, false)⟩,
         ⟨[(119, some (0, false)), (120, some (1, false)), (121, some (2, false))], [0, 1, 2], none⟩,
         ⟨[(122, some (3, false))], [0, 1, 2, 3], none⟩,
         ⟨[(118, some (4, false))], [0, 1, 2, 3, 4], none⟩,
         ⟨[(118, some (4, false))], [0, 1, 2, 3, 4], none⟩,
         ⟨[], [], some (0, 0, true)⟩,
         ⟨[(15, some (7, false)), (123, some (5, false))], [0, 1, 2, 3, 4, 5, 7], some (0, 1, true)⟩,
         ⟨[(124, some (6, false))], [0, 1, 2, 3, 4, 5, 6, 7, 8], none⟩] [_, _, _, _, _, _, _] _ rfl rfl ?_
     refine da 1 ?_
     refine dq_pure rfl (fun s => .nil) (fun s hs _ => loc_call (people_spec) rfl) (by exact .cons (.inr fun _ _ _ => rfl) (.nil)) ?_
     refine da 1 ?_
     refine dq_pure rfl (fun s => .op rfl (.op rfl (.op rfl (.nil)))) (fun s hs _ => loc_call (take_spec (foldN rr.1 rr.2.1) { y with mark := signM (1000 + y.server) (numsN y) } (got_okRd hgot) hy3) rfl) (by exact .cons (.inr fun _ _ _ => rfl) (.nil)) ?_
     refine da 3 ?_
     refine dq_choose id (fun _ t => t) rfl (fun _ _ => ⟨rfl, id, trivial⟩) (fun s => .nil) rfl rfl (fun s hs => locM_new (loc_allocOwn (by simp))) (by exact .cons (.inl rfl) (.nil)) (fun _ _ => rfl) ?_
     refine dq_write0 rfl (fun s => .op rfl (.op rfl (.nil))) rfl rfl (fun s hs => loc_storeN (ho := (by show OneAll [_, _, _, _, _, _, _, _, _, _, _, _, _, _, _]; infer_instance)) rfl rfl rfl) (by exact .cons (.inl rfl) (.nil)) ?_
     refine da 1 ?_
     refine dq_end (rs := [_, _, _, _, _, _, _]) 0 rfl (fun _ => rfl) (.cons rfl (.nil)) rfl (fun _ => rfl) (fun b19 _ => ?_)
     dsimp only [outG, outM, List.map, List.set, id]
     refine au 6 ?_
     refine run_drop (.cons _ (.cons _ (.cons _ (.cons _ (.cons _ (.cons _ (.cons _ (.refl _)))))))) ?_
     refine run_retP Tryz.func5 rfl rfl ?_
     exact d_B (by simp [got_bad hgot hyb])
end Go.Q

namespace Go.Q
open Go.ChangeShapes Go.WideShapes Go.RowKit
def immOf (w : World) : Imm := ⟨fun b => w.heap[b]?, w.os, w.tape, w.output⟩
theorem inv_of (w : World) : Inv (immOf w) [] w := ⟨rfl, rfl, rfl, fun _ _ h => h, fun r hr => (by cases hr), List.nodup_nil⟩
theorem below_of {W w' : World} {J : Imm} (hle : (immOf W).le J) (hi : Inv J [] w') : Below W.heap.size W w' := by
 have hblk : ∀ k, k < W.heap.size → w'.heap[k]? = W.heap[k]? := fun k hk => by
  have h1 : W.heap[k]? = some W.heap[k] := by simp [hk]
  rw [h1]
  exact hi.imm k _ (hle.blk k _ h1)
 refine ⟨hi.os.trans hle.os, hi.tape.trans hle.tape, hi.output.trans hle.output, ?_, hblk⟩
 by_cases h : W.heap.size ≤ w'.heap.size
 ·exact h
 ·have h1 := hblk w'.heap.size (by omega)
  have h2 : w'.heap[w'.heap.size]? = none := by simp
  rw [h2] at h1
  have h3 : W.heap[w'.heap.size]? = some W.heap[w'.heap.size] := by simp [show w'.heap.size < W.heap.size by omega]
  rw [h3] at h1
  cases h1
section
variable {H : Type} {enc : TypeId × Value → H} {P : Program}
theorem post_same {f : Func} {s : ChangeSpec} {apart fresh handsOn again : Bool} {W W' : World} {args : Array Value} {v : Value} {ds gs : List (DataW H)} {before pa pv : List MemPlace}
  (hW : DataW.Whole enc P f.params.toList s.vars apart W args.toList ds gs before)
  (hres : ∀ (b : Nat) (sp : Nat → Bool) (hd : Bool), DataW.TrodAll enc P W' b sp hd f.resultTypes.toList (v.resultList f.resultTypes.size) (s.fn H (ds ++ gs)).results [])
  (hargs : ∀ sp : Nat → Bool, (∀ p ∈ before, sp p.block = true) → DataW.TrodAll enc P W' 0 sp true f.params.toList args.toList (s.fn H (ds ++ gs)).args pa)
  (hvars : ∀ sp : Nat → Bool, (∀ p ∈ before, sp p.block = true) → DataW.TrodVars enc P W' sp s.vars (s.fn H (ds ++ gs)).vars pv)
  (hps : before = pa ++ pv) (hk : W.keptBut W' (· ∈ before)) (hfz : ∀ a : Addr, a.block < W.heap.size → W'.frozen? a = W.frozen? a)
  (hok : ∀ (j : Nat) (t : TypeId) (r : Value), f.resultTypes[j]? = some t → (v.resultList f.resultTypes.size)[j]? = some r → Value.okWide P W' .any 0 t r) :
  s.post enc P f apart fresh handsOn again W args v W' := by
 have hold : ∀ p ∈ before, (fun b => decide (b < W.heap.size)) p.block = true := fun p hp => by simpa using hW.lt p hp
 have hlt := hW.lt
 refine ⟨ds, gs, before, [], pa, pv, hW, hres _ _ _, hargs _ hold, hvars _ hold, World.keptBut_mono (fun p hp => ⟨hp, ?_⟩) hk, fun _ => ?_⟩
 ·rw [hps, List.mem_append] at hp
  exact Or.inr hp
 ·obtain ⟨_, _, _, _, _, hz, hn⟩ := hW
  refine ⟨hok, _, _, ([] ++ pa) ++ pv, ⟨[] ++ pa, pv, trodAll_append (hargs _ (fun _ _ => rfl)) (hres _ _ _), hvars _ (fun _ _ => rfl), rfl, ?_, ?_⟩, ?_⟩
  ·intro b off hp
   have hm : MemPlace.cell b off ∈ before := by rw [hps]; simpa using hp
   rw [hfz _ (hlt _ hm)]
   exact hz b off hm
  ·intro ha
   have := hn ha
   rw [hps] at this
   simpa using this
  ·intro p hp _
   rw [hps]
   simpa using hp
theorem trodAll_stay (hl : laidOutB P = true) {W W' : World} {sp : Nat → Bool} : ∀ {ts : List TypeId} {vs : List Value} {ds : List (DataW H)} {ps : List MemPlace}, (∀ t ∈ ts, P.readableRec t = true ∧ t < P.types.size) →
  DataW.TrodAll enc P W 0 (fun _ => true) true ts vs ds ps → (∀ p ∈ ps, W.sameAt W' p) → (∀ p ∈ ps, sp p.block = true) → DataW.TrodAll enc P W' 0 sp true ts vs ds ps
 | [], _, _, _, _, h, _, _ => by
  obtain ⟨rfl, rfl, rfl⟩ := trodAll_nil h
  exact rfl
 | t :: ts, _, _, _, hr, h, hs, hp => by
  obtain ⟨v, vs, d, ds, p, q, rfl, rfl, rfl, h1, h2⟩ := trodAll_cons h
  have hrt := hr t (List.mem_cons_self ..)
  exact ⟨p, q, WideElems.Trod_stays hl hrt.1 hrt.2 h1 (fun x hx => hs x (List.mem_append_left _ hx)) (fun x hx => hp x (List.mem_append_left _ hx)),
   trodAll_stay hl (fun x hx => hr x (List.mem_cons_of_mem _ hx)) h2 (fun x hx => hs x (List.mem_append_right _ hx)) (fun x hx => hp x (List.mem_append_right _ hx)), rfl⟩
theorem law_calls {f : FuncId} {fn : Func} {s : ChangeSpec} {apart fresh handsOn again : Bool} {W : World} {args : Array Value} {ds gs : List (DataW H)} {before : List MemPlace} {tb : TypeId} {Ds : List D}
  (hl : laidOutB P = true) (hread : ∀ t ∈ fn.params.toList, P.readableRec t = true ∧ t < P.types.size) (hres : fn.resultTypes = #[tb]) (htb : P.underlying tb = some .bool) (hvars : s.vars = [])
  (hW : DataW.Whole enc P fn.params.toList s.vars apart W args.toList ds gs before) (hr : (s.fn H ds).results = [.lit (.bool true)]) (ha : (s.fn H ds).args = ds) (hv : (s.fn H ds).vars = [])
  (hsp : SpecP P f Ds (dB True)) (hrel : relL Ds (immOf W) args.toList) :
  Calls P f args W fun e W' => ∃ v, e = .returned v ∧ s.post enc P fn apart fresh handsOn again W args v W' := by
 have h := hsp (immOf W) [] W args.toList hrel (inv_of W)
 rw [Array.toArray_toList] at h
 refine h.mono ?_
 rintro e W' ⟨v, rfl, J, hle, ⟨b, rfl, hb⟩, hi⟩
 have hbt : b = true := hb.2 trivial
 subst hbt
 have hB := below_of hle hi
 have hlt := hW.lt
 have hW' := hW
 obtain ⟨p, q, hA, hV, rfl, hfz, hnd⟩ := hW'
 rw [hvars] at hV
 obtain ⟨rfl, rfl⟩ := trodVars_none hV
 rw [List.append_nil] at hlt
 refine ⟨_, rfl, post_same (pa := p) (pv := []) hW (fun b sp hd => ?_) (fun sp hs => ?_) (fun sp hs => ?_) rfl (hB.frame _) (fun a ha => hB.frozen ha) (ok_one hres rfl (okWide_bool_mk htb true))⟩
 ·rw [List.append_nil, hr, hres]
  exact trodAll_mk1 (shut_bool htb true)
 ·rw [List.append_nil, ha]
  exact trodAll_stay hl hread hA (fun x hx => hB.same (hlt x hx)) (fun x hx => hs x (by simpa using hx))
 ·rw [List.append_nil, hv, hvars]
  exact rfl

theorem wf_u8 {n : Int} (h : (Lit.int .u8 n).wf = true) : 0 ≤ n ∧ n ≤ 255 := by
 have h1 : IntKind.u8.min ≤ n ∧ n ≤ IntKind.u8.max := by simpa [Lit.wf] using h
 exact h1
theorem at_of_cell {w : World} {a : Addr} {v : Value} {d : D} (h : w.cell? a = some v) (hd : d.rel (immOf w) v) : (immOf w).at a [d] := by
 unfold World.cell? at h
 split at h
 ·rename_i cs T fz hb
  split at h
  ·cases h
  ·rename_i hs
   refine ⟨by simpa using hs, cs, T, fz, hb, ?_⟩
   have h1 : cs.toList[a.off]? = some v := by simpa using h
   have h2 : (cs.toList.drop a.off).take 1 = [v] := by
    rw [List.take_one, List.head?_drop, h1]; rfl
   show relL [d] _ ((cs.toList.drop a.off).take 1)
   rw [h2]
   exact ⟨hd, trivial⟩
 ·cases h
variable {W : World}
end
end Go.Q

namespace Go.Q
open Go.ChangeShapes Go.WideShapes Go.RowKit Go.Joins
section
variable {H : Type} {enc : TypeId × Value → H} {P : Program} {W : World}
theorem weights_all {e : TypeId} {l : List (DataW H)} {d : DataW H} (hd : d ∈ l) {n : Nat} (hn : n ∈ d.weights P e) : n ∈ DataW.weightsAll P e l := by
 induction l with
 | nil => cases hd
 | cons x l ih =>
  rw [DataW.weightsAll]
  rcases List.mem_cons.1 hd with rfl | hd
  ·exact List.mem_append_left _ hn
  ·exact List.mem_append_right _ (ih hd)
structure TabTy (P : Program) (t e q : TypeId) (f0 f1 f2 f3 g : Field) : Prop where
 s : P.underlying t = some (.struct #[f0, f1, f2, f3])
 c : P.cellsOf t = 4
 i0 : P.underlying f0.type = some (.int .i64) ∧ f0.offset = 0 ∧ P.cellsOf f0.type = 1
 i1 : P.underlying f1.type = some (.struct #[g]) ∧ f1.offset = 1 ∧ P.cellsOf f1.type = 1
 i2 : P.underlying f2.type = some (.int .i64) ∧ f2.offset = 2 ∧ P.cellsOf f2.type = 1
 i3 : P.underlying f3.type = some (.slice e) ∧ f3.offset = 3 ∧ P.cellsOf f3.type = 1
 ig : P.underlying g.type = some (.int .i64) ∧ g.offset = 0 ∧ P.cellsOf g.type = 1
 he : P.underlying e = some (.slice q)
 hq : P.underlying q = some (.int .i64)
 ce : P.cellsOf e = 1
 cq : P.cellsOf q = 1
 be : P.bytesOf e = 24
 bq : P.bytesOf q = 8
def fieldsOf (P : Program) (t : TypeId) : List Field := match P.underlying t with | some (.struct fs) => fs.toList | _ => []
end
end Go.Q

namespace Go.Q
open Go.ChangeShapes Go.WideShapes Go.RowKit
def ArgOk (P : Program) (t : TypeId) {α : Type} (p : α → Prop) (c : α → List D) : Prop :=
 ∀ (H : Type) (enc : TypeId × Value → H) (W : World) (fuel : Nat) (cs : List Value) (d : DataW H) (ps : List MemPlace), DataW.trod enc P W 0 (fun _ => true) true fuel t cs = some (d, ps) →
  (∀ n ∈ d.weights P t, n ≤ reachBytes) → ∃ x, p x ∧ relL (c x) (immOf W) cs
variable {P : Program} {t e : TypeId} {α β : Type}
theorem ArgOk.map {p : α → Prop} {c : α → List D} {q : β → Prop} {c' : β → List D} (h : ArgOk P t p c) (f : α → β) (hp : ∀ x, p x → q (f x)) (hc : ∀ x, c x = c' (f x)) : ArgOk P t q c' := fun H enc W fuel cs d ps ht hw =>
 let ⟨x, h1, h2⟩ := h H enc W fuel cs d ps ht hw
 ⟨f x, hp x h1, hc x ▸ h2⟩
theorem ArgOk.int {k : IntKind} (ht : P.underlying t = some (.int k)) : ArgOk P t (fun n => (Lit.int k n).wf = true) (fun n => [dInt k n]) := fun H enc W fuel cs d ps h hw => by
 obtain ⟨n, rfl, _, hn⟩ := DataW.trod_int ht h
 exact ⟨n, hn, rfl, trivial⟩
theorem ArgOk.bool (ht : P.underlying t = some .bool) : ArgOk P t (fun _ => True) (fun b : Bool => [dB (b = true)]) := fun H enc W fuel cs d ps h hw => by
 obtain ⟨b, rfl, _⟩ := DataW.trod_bool ht h
 exact ⟨b, trivial, ⟨b, rfl, Iff.rfl⟩, trivial⟩
theorem cells_of {W : World} {a : Addr} {n : Nat} {vs : List Value} (h : W.cells? 0 a n = some vs) : vs.length = n ∧ ∀ i v, vs[i]? = some v → W.cell? (a.add i) = some v := by
 unfold World.cells? at h
 rw [if_pos (Nat.zero_le _)] at h
 have h1 := mapM_some_length h
 rw [List.length_range] at h1
 refine ⟨h1, fun i v hv => ?_⟩
 have hi : i < n := by rw [← h1]; exact (List.getElem?_eq_some_iff.1 hv).1
 have := mapM_some_get h i i (by simp [hi])
 rw [← hv, ← this]
theorem at_of_cells {w : World} {a : Addr} {ds : List D} {vs : List Value} (hs : a.spot = none) (hl : vs ≠ []) (hv : ∀ i v, vs[i]? = some v → w.cell? (a.add i) = some v) (hr : relL ds (immOf w) vs) : (immOf w).at a ds := by
 obtain ⟨b, o, s⟩ := a
 simp only at hs
 subst hs
 have hcell : ∀ i v, vs[i]? = some v → w.cell? ⟨b, o + i, none⟩ = some v := fun i v h => by have := hv i v h; rwa [Addr.add_lit] at this
 cases vs with
 | nil => exact absurd rfl hl
 | cons v0 vs =>
  have h0 := hcell 0 v0 rfl
  unfold World.cell? at h0
  simp only at h0
  split at h0
  ·rename_i cs T fz hb
   refine ⟨rfl, cs, T, fz, hb, ?_⟩
   have hlen := relL_length hr
   have : (cs.toList.drop o).take ds.length = v0 :: vs := by
    apply List.ext_getElem?
    intro i
    by_cases hi : i < (v0 :: vs).length
    ·have h1 := hcell i ((v0 :: vs)[i]) (List.getElem?_eq_getElem hi)
     simp only [World.cell?, hb] at h1
     rw [List.getElem?_take, if_pos (by omega), List.getElem?_drop, Array.getElem?_toList, List.getElem?_eq_getElem hi]
     simpa using h1
    ·rw [List.getElem?_eq_none (by rw [List.length_take]; omega), List.getElem?_eq_none (by omega)]
   show relL ds _ ((cs.toList.drop o).take ds.length)
   rw [this]
   exact hr
  ·cases h0
theorem list_choose {Q : Nat → α → Prop} {n : Nat} (h : ∀ i, i < n → ∃ x, Q i x) : ∃ xs : List α, xs.length = n ∧ ∀ i x, xs[i]? = some x → Q i x := by
 refine ⟨List.ofFn fun i : Fin n => Classical.choose (h i.1 i.2), by simp, fun i x hx => ?_⟩
 have hi : i < n := by have := (List.getElem?_eq_some_iff.1 hx).1; simpa using this
 rw [List.getElem?_ofFn, dif_pos hi] at hx
 injection hx with hx
 rw [← hx]
 exact Classical.choose_spec (h i hi)
theorem spot_add (a : Addr) (h : a.spot = none) (i : Nat) : (a.add i).spot = none := by
 obtain ⟨b, o, s⟩ := a
 simp only at h
 subst h
 rw [Addr.add_lit]
theorem ArgOk.slice {p : α → Prop} {c : α → List D} {n : Nat} (ht : P.underlying t = some (.slice e)) (he : ArgOk P e p c) (hn : P.cellsOf e = n) (hn0 : n ≠ 0) (hb : 8 ≤ P.bytesOf e) (hc : ∀ x, (c x).length = n) :
  ArgOk P t (fun xs : List α => ∀ x ∈ xs, p x) (fun xs => [dSl n c xs]) := fun H enc W fuel cs d ps h hw => by
 subst hn
 rcases DataW.trod_slice ht h with ⟨rfl, _⟩ | ⟨a, len, cap, elems, rest, m, _, rfl, hx, _, h1, h2, h3, h4, _, _⟩
 ·exact ⟨[], (fun x hx => by cases hx), d_nil _ _ rfl, trivial⟩
 ·injection hx with hx _
  subst hx
  have hlen : len ≤ lenMax := by
   have h7 := hw ((elems.length + rest.length) * P.bytesOf e) (by simp [DataW.weights, ht])
   have h9 : reachBytes = 140737488351232 := rfl
   have h10 := Nat.mul_le_mul_left (elems.length + rest.length) hb
   unfold lenMax
   omega
  have hel : ∀ i, i < len → ∃ x, p x ∧ ∃ vs, W.cells? 0 (a.add (i * P.cellsOf e)) (P.cellsOf e) = some vs ∧ relL (c x) (immOf W) vs := by
   intro i hi
   have h5 := h4 i hi
   rw [List.getElem?_eq_getElem (by omega)] at h5
   obtain ⟨vs, h6, h7⟩ := Option.bind_eq_some_iff.1 h5
   obtain ⟨x, h8, h9⟩ := he H enc W m vs _ _ h7 (fun k hk => hw k (by
    simp only [DataW.weights, ht, List.mem_cons, List.mem_append]
    exact .inr (.inl (weights_all (d := elems[i].1) (List.mem_map.2 ⟨elems[i], List.getElem_mem .., rfl⟩) hk))))
   exact ⟨x, h8, vs, h6, h9⟩
  obtain ⟨xs, hxl, hxs⟩ := list_choose hel
  subst hxl
  refine ⟨xs, fun x hx => by obtain ⟨i, hi⟩ := List.getElem?_of_mem hx; exact (hxs i x hi).1, ⟨some a, cap, rfl, h1, h2, hlen, fun i x hi => ?_⟩, trivial⟩
  obtain ⟨_, vs, g1, g2⟩ := hxs i x hi
  have hne : ∀ {vs : List Value}, vs.length = P.cellsOf e → vs ≠ [] := fun h e0 => hn0 (by rw [← h, e0]; rfl)
  have hspot : a.spot = none := by
   have h0 : 0 < xs.length := by have := (List.getElem?_eq_some_iff.1 hi).1; omega
   obtain ⟨_, us, u1, _⟩ := hxs 0 xs[0] (List.getElem?_eq_getElem h0)
   obtain ⟨u2, u3⟩ := cells_of u1
   have := hne u2
   cases us with
   | nil => exact absurd rfl this
   | cons u us =>
    have := u3 0 u rfl
    rw [Nat.zero_mul, Addr.add_zero', Addr.add_zero'] at this
    exact (at_of_cell (d := dTop) this trivial).1
  obtain ⟨g3, g4⟩ := cells_of g1
  exact ⟨hc x, a, rfl, hspot, at_of_cells (spot_add a hspot _) (hne g3) g4 g2⟩
def structB (P : Program) (t : TypeId) (l : List (Nat × Nat × TypeId)) : Bool :=
 match P.underlying t with
 | some (.struct fs) => (fs.toList.map fun f => (f.offset, P.cellsOf f.type, f.type)) == l && Nat.beq (P.cellsOf t) (l.foldr (fun x n => x.2.1 + n) 0)
 | _ => false
inductive FieldsOk (P : Program) : List (Nat × Nat × TypeId) → Nat → {α : Type} → (α → Prop) → (α → List D) → Prop where
 | nil {off : Nat} : FieldsOk P [] off (fun _ : Unit => True) (fun _ => [])
 | cons {off n : Nat} {t : TypeId} {l : List (Nat × Nat × TypeId)} {α β : Type} {p : α → Prop} {c : α → List D} {q : β → Prop} {c' : β → List D} : ArgOk P t p c → FieldsOk P l (off + n) q c' → FieldsOk P ((off, n, t) :: l) off (fun x : α × β => p x.1 ∧ q x.2) (fun x => c x.1 ++ c' x.2)
theorem FieldsOk.run {l : List (Nat × Nat × TypeId)} {off : Nat} {α : Type} {p : α → Prop} {c : α → List D} (h : FieldsOk P l off p c) (H : Type) (enc : TypeId × Value → H) (W : World) (m : Nat) (cs : List Value) (xs : List (DataW H × List MemPlace)) (hl : xs.length = l.length)
  (hx : ∀ (i o n : Nat) (t : TypeId), l[i]? = some (o, n, t) → DataW.trod enc P W 0 (fun _ => true) true m t ((cs.drop o).take n) = xs[i]?) (hw : ∀ (i o n : Nat) (t : TypeId) (y : DataW H × List MemPlace), l[i]? = some (o, n, t) → xs[i]? = some y → ∀ k ∈ y.1.weights P t, k ≤ reachBytes)
  (hsz : cs.length = off + l.foldr (fun x n => x.2.1 + n) 0) : ∃ x, p x ∧ relL (c x) (immOf W) (cs.drop off) := by
 induction h generalizing xs with
 | nil => exact ⟨(), trivial, by rw [List.drop_eq_nil_of_le (by simp at hsz; omega)]; trivial⟩
 | @cons off n t l α β p c q c' h1 _ ih =>
  cases xs with
  | nil => simp at hl
  | cons y ys =>
   have e1 := hx 0 off n t rfl
   obtain ⟨x, g1, g2⟩ := h1 H enc W m _ y.1 y.2 e1 (hw 0 off n t y rfl rfl)
   obtain ⟨x', g3, g4⟩ := ih ys (by simpa using hl) (fun i o n t hi => by have := hx (i + 1) o n t (by simpa using hi); simpa using this) (fun i o n t y hi hy => hw (i + 1) o n t y (by simpa using hi) (by simpa using hy)) (by rw [hsz]; simp only [List.foldr_cons]; omega)
   refine ⟨(x, x'), ⟨g1, g3⟩, ?_⟩
   have : cs.drop off = (cs.drop off).take n ++ cs.drop (off + n) := by rw [← List.drop_drop, List.take_append_drop]
   rw [this]
   exact relL_append g2 g4
theorem ArgOk.struct {l : List (Nat × Nat × TypeId)} {p : α → Prop} {c : α → List D} (hs : structB P t l = true) (hf : FieldsOk P l 0 p c) : ArgOk P t p c := fun H enc W fuel cs d ps h hw => by
 unfold structB at hs
 split at hs
 ·rename_i fs ht
  simp only [Bool.and_eq_true] at hs
  have hl : (fs.toList.map fun (f : Field) => (f.offset, P.cellsOf f.type, f.type)) = l := eq_of_beq hs.1
  obtain ⟨xs, m, _, hx, hcl, hxl, hget⟩ := DataW.trod_struct ht h
  injection hx with hx _
  subst hx
  have hfl : ∀ (i o n : Nat) (t' : TypeId), l[i]? = some (o, n, t') → ∃ f : Field, fs[i]? = some f ∧ f.offset = o ∧ P.cellsOf f.type = n ∧ f.type = t' := by
   intro i o n t' hi
   rw [← hl, List.getElem?_map] at hi
   cases hf' : fs.toList[i]? with
   | none => rw [hf'] at hi; cases hi
   | some f =>
    rw [hf'] at hi
    simp only [Option.map_some, Option.some.injEq, Prod.mk.injEq] at hi
    exact ⟨f, by simpa using hf', hi.1, hi.2.1, hi.2.2⟩
  have := hf.run H enc W m cs xs (by rw [hxl, ← hl]; simp) (fun i o n t' hi => by
   obtain ⟨f, f1, f2, f3, f4⟩ := hfl i o n t' hi
   have := hget i f f1
   rwa [f2, f3, f4] at this) (fun i o n t' y hi hy k hk => by
   obtain ⟨f, f1, f2, f3, f4⟩ := hfl i o n t' hi
   refine hw k ?_
   simp only [DataW.weights, ht]
   refine DataW.weights_mem_each (j := i) (t := t') (d := y.1) ?_ ?_ k hk
   ·rw [List.getElem?_map]; rw [show fs.toList[i]? = some f by simpa using f1]; rw [← f4]; rfl
   ·rw [List.getElem?_map, hy]; rfl) (by rw [hcl, Nat.eq_of_beq_eq_true hs.2, Nat.zero_add])
  rwa [List.drop_zero] at this
 ·cases hs


theorem arg_bytes {H : Type} {enc : TypeId × Value → H} {W : World} {r : Reach} {b0 : Nat} {v : Value} {d : DataW H} {ps : List MemPlace} (ht : P.underlying t = some (.slice e)) (he : P.underlying e = some (.int .u8)) (hn : P.cellsOf e = 1) (hb : P.bytesOf e = 1)
  (hval : Value.okWide P W r b0 t v) (hd : DataW.Trod enc P W 0 (fun _ => true) true t v d ps) (hsz : ∀ n ∈ d.weights P t, n ≤ reachBytes) : ∃ xs : List Int, (∀ x ∈ xs, 0 ≤ x ∧ x ≤ 255) ∧ (dBy xs).rel (immOf W) v := by
 obtain ⟨a0, l0, c0, rfl⟩ := okWide_slice ht hval
 obtain ⟨fuel, hf⟩ := hd
 rcases DataW.trod_slice ht hf with ⟨h0, _⟩ | ⟨a, len, cap, elems, rest, m, _, h0, hx, _, h1, h2, h3, h4, _, _⟩
 ·simp only [Value.cells, List.cons.injEq, and_true] at h0
  exact ⟨[], (fun x hx => by cases hx), none, 0, h0, Nat.le_refl _, Nat.zero_le _, Nat.zero_le _, fun i x hx => by simp at hx⟩
 ·simp only [Value.cells, List.cons.injEq, and_true] at h0
  injection hx with hx _
  subst hx
  have hlen : len ≤ 140737488355328 := by
   have h7 := hsz ((elems.length + rest.length) * P.bytesOf e) (by simp [DataW.weights, ht])
   have h9 : reachBytes = 140737488351232 := rfl
   rw [hb] at h7
   omega
  have hel : ∀ i, i < len → ∃ x, (0 ≤ x ∧ x ≤ 255) ∧ W.cell? ((a.add i).add 0) = some (.int .u8 x) := by
   intro i hi
   have h5 := h4 i hi
   rw [List.getElem?_eq_getElem (by omega)] at h5
   obtain ⟨vs, h6, h7⟩ := Option.bind_eq_some_iff.1 h5
   obtain ⟨n, rfl, _, hw⟩ := DataW.trod_int he h7
   rw [hn, Nat.mul_one] at h6
   exact ⟨n, wf_u8 hw, (cells_of h6).2 0 _ rfl⟩
  obtain ⟨xs, hxl, hxs⟩ := list_choose hel
  subst hxl
  refine ⟨xs, fun x hx => by obtain ⟨i, hi⟩ := List.getElem?_of_mem hx; exact (hxs i x hi).1, some a, cap, h0, h1, h2, hlen, fun i x hi => ?_⟩
  have hspot : a.spot = none := by
   have h0 : 0 < xs.length := by have := (List.getElem?_eq_some_iff.1 hi).1; omega
   have := (hxs 0 xs[0] (List.getElem?_eq_getElem h0)).2
   rw [Addr.add_zero', Addr.add_zero'] at this
   exact (at_of_cell (d := dTop) this trivial).1
  refine ⟨a, rfl, hspot, ?_⟩
  have := (hxs i x hi).2
  rw [Addr.add_zero'] at this
  rw [Nat.mul_one]
  exact at_of_cell this rfl
end Go.Q
