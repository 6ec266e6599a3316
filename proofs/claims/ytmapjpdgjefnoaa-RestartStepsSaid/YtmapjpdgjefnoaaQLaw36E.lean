/- The law of the steps of disks. -/
import Derived.Test.YtmapjpdgjefnoaaQDiskP
import Derived.Test.YtmapjpdgjefnoaaQOwn5
set_option linter.unusedVariables false
set_option linter.unusedSimpArgs false
namespace Go.Q
open Go.Proofs

open Classical
theorem dice_okS {xs : List Int} (h : ∀ x ∈ xs, 0 ≤ x ∧ x ≤ 255) : okDc ⟨xs.take 300, 0⟩ := ⟨fun x hm => h x (List.mem_of_mem_take hm), by simp; omega⟩
abbrev f4 (a : Int × Int × Int × Int) : List D := [dInt .i64 a.1, dInt .i64 a.2.1, dInt .i64 a.2.2.1, dInt .i64 a.2.2.2]
theorem set_row {α : Type} {f : α → List D} {xs : List α} {J : List (List D)} {i : Nat} {e : α} {ds : List D} (hi : i < xs.length) (he : ds = f e) : (xs.map f ++ J).set (0 + i) ds = (xs.set i e).map f ++ J := by
  subst he
  rw [Nat.zero_add, List.set_append_left _ _ (by simpa using hi), List.map_set]
theorem restartSteps_spec (xs : List Int) (se : Int) (raw : Disk) (u v p n : Int) (hx : ∀ x ∈ xs, 0 ≤ x ∧ x ≤ 255) : SpecP Try.prog 12 [dBy xs, dInt .i64 se, dDisk raw, dInt .i64 u, dInt .i64 v, dInt .i64 p, dInt .i64 n] (dB True) := by
  refine specP_of_body Try.func12 rfl rfl (fun I M => ?_)
  refine run_seq ?_
  refine run_region ?_
  refine run_op (loc_boxN rfl) rfl ?_
  refine run_op (loc_assign rfl) rfl ?_
  refine run_nil ?_
  refine run_seq ?_
  refine run_seq ?_
  refine run_region ?_
  refine run_op (loc_call (sane36_spec) rfl) rfl ?_
  refine run_op (loc_not rfl) rfl ?_
  refine run_nil ?_
  refine run_cond rfl (fun h1 => ?_) (fun h1 => ?_)
  · exfalso; exact h1 trivial
  ·
    refine run_skip ?_
    refine run_seq ?_
    refine run_seq ?_
    refine run_region ?_
    refine run_op (loc_fieldAddr rfl) rfl ?_
    refine run_op (loc_load1 rfl) rfl ?_
    first | refine runL_fact (s := 48) rfl (fun _ _ h => dSl_len h) (fun hlen2 => ?_) | skip
    refine run_op (loc_len rfl) rfl ?_
    refine run_op (loc_gtr rfl rfl) rfl ?_
    refine run_nil ?_
    refine run_cond rfl (fun h3 => ?_) (fun h3 => ?_)
    ·
      refine run_seq ?_
      refine run_region ?_
      refine run_op (loc_assign rfl) rfl ?_
      refine run_nil ?_
      refine run_retP Try.func12 rfl rfl ?_
      exact d_B (by simp)
    ·
      refine run_skip ?_
      refine run_seq ?_
      refine run_region ?_
      refine run_op (loc_move rfl) rfl ?_
      refine run_callN rfl (dnew_spec _) rfl (fun vd hvd => ?_)
      refine run_op (loc_assign rfl) rfl ?_
      refine run_nil ?_
      have hd0 := dice_okS hx
      refine run_seq ?_
      refine run_region ?_
      refine run_op (loc_move rfl) rfl ?_
      refine run_callM rfl (.here) (ddisk_spec _ _ hd0) rfl (fun pd hpd => ?_)
      refine run_new (loc_allocOwn (by simp)) rfl (fun b4 _ => ?_)
      refine run_storeN (ho := (by show OneAll [_, _, _]; infer_instance)) rfl rfl (.here) (by rfl) ?_
      refine run_nil ?_
      obtain ⟨hdk, hdc, -⟩ := hpd
      have hok := hdk.ok
      have most := hok.most
      have dr := hok.drawn
      refine run_seq ?_
      refine run_region ?_
      refine run_op (loc_loadOwnN rfl (.here) (by rfl)) rfl ?_
      refine run_new (loc_allocOwn (by simp)) rfl (fun b17 _ => ?_)
      refine run_storeN (ho := (by show OneAll [_, _, _]; infer_instance)) rfl rfl (.here) (by rfl) ?_
      refine run_nil ?_
      refine run_seq ?_
      refine run_region ?_
      refine run_new (loc_build0 cStrt) rfl (fun b5 _ => ?_)
      refine run_op (loc_fieldAddrOwn rfl) rfl ?_
      refine run_op (loc_loadOwn1 rfl (.there (.there (.here))) (by rfl)) rfl ?_
      refine run_append rfl (.here) rfl (by rfl) (by first | omega | (unfold lenMax; omega) | assumption | (simp; omega) | (simp [lenMax]; omega)) (by first | omega | (unfold lenMax; omega) | assumption | (simp; omega) | (simp [lenMax]; omega)) rfl (fun v6 => ?_)
      refine runL_rowV (s := 59) rfl (.here) ?_
      refine run_op (loc_fieldAddrOwn rfl) rfl ?_
      refine run_store1 rfl rfl (.there (.here)) (by rfl) ?_
      refine run_nil ?_
      rw [List.nil_append]
      refine run_seq ?_
      refine run_seq ?_
      refine run_region ?_
      refine run_op (loc_fieldAddrOwn rfl) rfl ?_
      first | refine run_op (LocP.upV (loc_loadOwn1 rfl (.there (.here)) (by rfl))) rfl ?_ | refine run_op (loc_loadOwn1 rfl (.there (.here)) (by rfl)) rfl ?_
      refine run_op (loc_lenRow rfl (.here)) rfl ?_
      refine run_op (loc_gtr rfl rfl) rfl ?_
      refine run_nil ?_
      refine run_front (.there (.there (.there (.here)))) ?_
      refine run_front (.there (.here)) ?_
      refine run_front (.there (.there (.here))) ?_
      refine run_joinF (σ := Disk × Value × Dc) (ks := [1, 3, 4, 5, 6, 9, 15, 16, 17]) _ (.cons rfl (.cons rfl (.cons rfl (.cons rfl (.cons rfl (.cons rfl (.cons rfl (.cons rfl (.cons rfl (.nil)))))))))) (fun y => []) (fun y => [rCells b17 49 [dInt .i64 y.1.seed, dInt .i64 y.1.drawn, dSlV y.2.1], rRow y.2.1 68 5 cStrt y.1.begun, rDc vd y.2.2]) (fun y => y.1.begun.length ≤ 64 ∧ okDc y.2.2) ⟨[_, _, _], rfl⟩ (fun j7 => ?_) ?_
      ·
        refine run_cond rfl (fun h8 => ?_) (fun h8 => ?_)
        ·
          refine run_openRow (.there (.here)) (by intro he; rw [he] at h8; simp at h8) (fun bq cq hvq hcq hmq hlq hfq => ?_)
          subst hvq
          have hi0 := Dc.val_nonneg (d := pd.2) (n := (pd.1.begun.length : Nat)) (by omega)
          have hi1 := Dc.val_lt (d := pd.2) (n := (pd.1.begun.length : Nat)) (by omega)
          have hS := okS_of hok (i := (pd.2.val (pd.1.begun.length : Nat)).toNat) (by omega)
          have hSf := hS.f
          have hSn := hS.n
          have hd1 := Dc.next_ok hdc
          have hd2 := Dc.next_ok hd1
          have hd3 := Dc.next_ok hd2
          have hw3 := Dc.val_nonneg (d := pd.2.next.next) (n := 3) (by omega)
          have hz3 := Dc.val_lt (d := pd.2.next.next) (n := 3) (by omega)
          have hw6 := Dc.val_nonneg (d := pd.2.next.next) (n := 6) (by omega)
          have hz6 := Dc.val_lt (d := pd.2.next.next) (n := 6) (by omega)
          have hw2 := Dc.val_nonneg (d := pd.2.next.next) (n := 2) (by omega)
          have hz2 := Dc.val_lt (d := pd.2.next.next) (n := 2) (by omega)
          refine run_seq ?_
          refine run_region ?_
          refine run_op (loc_move rfl) rfl ?_
          refine run_op (loc_fieldAddrOwn rfl) rfl ?_
          first | refine run_op (LocP.upV (loc_loadOwn1 rfl (.here) (by rfl))) rfl ?_ | refine run_op (loc_loadOwn1 rfl (.here) (by rfl)) rfl ?_
          refine run_op (loc_lenOwn rfl) rfl ?_
          refine run_callM rfl (.there (.there (.here))) (pick_spec _ _ _ (by assumption) (by omega)) rfl (fun s9 hs9 => ?_)
          refine run_op (loc_assign rfl) rfl ?_
          refine run_nil ?_
          refine run_seq ?_
          refine run_region ?_
          refine run_op (loc_move rfl) rfl ?_
          refine run_callM rfl (.there (.there (.here))) (pick_spec _ _ _ (by assumption) (by omega)) rfl (fun s10 hs10 => ?_)
          refine run_nil ?_
          refine run_block ?_
          refine run_seq ?_
          refine run_region ?_
          refine run_op (loc_eql rfl rfl) rfl ?_
          refine run_op (loc_assign rfl) rfl ?_
          refine run_nil ?_
          refine run_cond rfl (fun h11 => ?_) (fun h11 => ?_)
          ·
            refine dr_start _ (.none) [⟨[(17, none)], [], none⟩,
                ⟨[(78, some (0, false))], [0], some (0, 0, false)⟩,
                ⟨[(18, none)], [], none⟩,
                ⟨[(79, some (1, false)), (80, some (2, false))], [0, 1, 2], none⟩,
                ⟨[(81, some (3, false))], [0, 1, 2, 3], none⟩,
                ⟨[(82, some (4, false))], [0, 1, 2, 3, 4], some (1, 0, false)⟩,
                ⟨[(15, none)], [], none⟩,
                ⟨[(84, some (6, false))], [6], some (2, 0, true)⟩,
                ⟨[(85, some (7, false))], [6, 7], none⟩,
                ⟨[(83, some (5, false)), (86, some (8, false))], [0, 1, 2, 3, 4, 5, 6, 7, 8], none⟩,
                ⟨[(79, some (1, false)), (80, some (2, false))], [0, 1, 2, 3, 4, 5, 6, 7, 8, 9], none⟩,
                ⟨[(88, some (10, false))], [0, 1, 2, 3, 4, 5, 6, 7, 8, 9, 10], none⟩,
                ⟨[(89, some (11, false)), (87, some (9, false))], [0, 1, 2, 3, 4, 5, 6, 7, 8, 9, 10, 11], some (1, 0, true)⟩] [_, _, _, _] _ rfl rfl ?_
            refine dq_pure rfl (fun s => .g rfl (.nil)) (fun s hs _ => loc_fieldAddrOwn rfl) (by exact .nil) ?_
            first | refine dq_read rfl (fun s => .op rfl (.nil)) rfl rfl (fun s hs _ hm => LocP.upV (loc_loadOwn1 rfl hm (by rfl))) (by exact .nil) ?_ | refine dq_read rfl (fun s => .op rfl (.nil)) rfl rfl (fun s hs _ hm => loc_loadOwn1 rfl hm (by rfl)) (by exact .nil) ?_
            refine dq_pure rfl (fun s => .g rfl (.nil)) (fun s hs _ => loc_move rfl) (by exact .nil) ?_
            refine dq_pure rfl (fun s => .op rfl (.op rfl (.nil))) (fun s hs _ => loc_indexOwn rfl rfl (by first | omega | assumption)) (by exact .nil) ?_
            refine dq_pure rfl (fun s => .op rfl (.nil)) (fun s hs _ => loc_fieldAddrOwn rfl) (by exact .nil) ?_
            refine dq_read rfl (fun s => .op rfl (.nil)) rfl rfl (fun s hs _ hm => loc_loadBufF rfl hm (by exact buf_get (i := (pd.2.val (pd.1.begun.length : Nat)).toNat) (by omega) (by simp)) rfl) (by exact .nil) ?_
            refine dq_pure rfl (fun s => .g rfl (.nil)) (fun s hs _ => loc_move rfl) (by exact .nil) ?_
            refine dq_write rfl (fun s => .op rfl (.nil)) rfl rfl (fun s hs => loc_callM (pick_spec _ _ _ (by assumption) (by omega)) rfl) (by exact .nil) ?_
            first | refine dq_pure rfl (fun s => .op rfl (.nil)) (fun s hs _ => loc_sub rfl rfl (by first | omega | assumption)) (by exact .nil) ?_ | refine dq_pure rfl (fun s => .op rfl (.nil)) (fun s hs _ => loc_subW rfl rfl) (by exact .nil) ?_
            first | refine dq_pure rfl (fun s => .op rfl (.op rfl (.nil))) (fun s hs _ => loc_add rfl rfl (by first | omega | assumption)) (by exact .nil) ?_ | refine dq_pure rfl (fun s => .op rfl (.op rfl (.nil))) (fun s hs _ => loc_addW rfl rfl) (by exact .nil) ?_
            refine dq_pure rfl (fun s => .op rfl (.op rfl (.nil))) (fun s hs _ => loc_indexOwn rfl rfl (by first | omega | assumption)) (by exact .nil) ?_
            refine dq_pure rfl (fun s => .op rfl (.nil)) (fun s hs _ => loc_fieldAddrOwn rfl) (by exact .nil) ?_
            refine dq_write0 rfl (fun s => .op rfl (.op rfl (.nil))) rfl rfl (fun s hs => loc_storeBufF rfl rfl (by exact buf_get (i := (pd.2.val (pd.1.begun.length : Nat)).toNat) (by omega) (by simp)) (by decide)) (by exact .nil) ?_
            refine dq_end (rs := [_, _, _, _]) () rfl (fun _ => rfl) (.nil) rfl (fun _ _ => ?_)
            dsimp only [outG, outM, List.map, List.set, id]
            refine run_inBlock ?_
            refine run_shutRow (len := pd.1.begun.length) (cap := cq) (xs := pd.1.begun.set (pd.2.val (pd.1.begun.length : Nat)).toNat (⟨(pd.1.begun[(pd.2.val (pd.1.begun.length : Nat)).toNat]?.getD default).read, (pd.1.begun[(pd.2.val (pd.1.begun.length : Nat)).toNat]?.getD default).version, (pd.1.begun[(pd.2.val (pd.1.begun.length : Nat)).toNat]?.getD default).p, (pd.1.begun[(pd.2.val (pd.1.begun.length : Nat)).toNat]?.getD default).from' + (pd.2.next.next.val 3 - 1), (pd.1.begun[(pd.2.val (pd.1.begun.length : Nat)).toNat]?.getD default).draws⟩ : Strt)) (els' := junk 5 (cq - pd.1.begun.length)) (.there (.here)) (set_row (by omega) rfl) (by simp) (by simp [junk_length]; omega) hmq (by first | omega | (simp; omega)) ?_
            exact run_atF j7 ((⟨pd.1.seed, pd.1.drawn, pd.1.begun.set (pd.2.val (pd.1.begun.length : Nat)).toNat (⟨(pd.1.begun[(pd.2.val (pd.1.begun.length : Nat)).toNat]?.getD default).read, (pd.1.begun[(pd.2.val (pd.1.begun.length : Nat)).toNat]?.getD default).version, (pd.1.begun[(pd.2.val (pd.1.begun.length : Nat)).toNat]?.getD default).p, (pd.1.begun[(pd.2.val (pd.1.begun.length : Nat)).toNat]?.getD default).from' + (pd.2.next.next.val 3 - 1), (pd.1.begun[(pd.2.val (pd.1.begun.length : Nat)).toNat]?.getD default).draws⟩ : Strt)⟩, sl bq 5 0 pd.1.begun.length cq, pd.2.next.next.next)) (⟨by simp only [List.length_set]; omega, hd3⟩) (rfl) (.nil) (.cons rfl (fun _ _ x => x) (.cons rfl (fun _ _ x => x) (.cons rfl (fun _ _ x => x) (.cons rfl (fun _ _ x => x) (.cons rfl (fun _ _ x => x) (.cons rfl (fun _ _ x => x) (.cons rfl (fun _ _ x => x) (.cons rfl (fun _ _ x => x) (.cons rfl (fun _ _ x => x) (.nil))))))))))
          ·
            refine run_seq ?_
            refine run_region ?_
            refine run_op (loc_eql rfl rfl) rfl ?_
            refine run_op (loc_assign rfl) rfl ?_
            refine run_nil ?_
            refine run_cond rfl (fun h12 => ?_) (fun h12 => ?_)
            ·
              refine dr_start _ (.none) [⟨[(17, none)], [], none⟩,
                  ⟨[(92, some (0, false))], [0], some (0, 0, false)⟩,
                  ⟨[(18, none)], [], none⟩,
                  ⟨[(93, some (1, false)), (94, some (2, false))], [0, 1, 2], none⟩,
                  ⟨[(95, some (3, false))], [0, 1, 2, 3], none⟩,
                  ⟨[(96, some (4, false))], [0, 1, 2, 3, 4], some (1, 0, false)⟩,
                  ⟨[(15, none)], [], none⟩,
                  ⟨[(98, some (6, false))], [6], some (2, 0, true)⟩,
                  ⟨[(99, some (7, false))], [6, 7], none⟩,
                  ⟨[(97, some (5, false)), (100, some (8, false))], [0, 1, 2, 3, 4, 5, 6, 7, 8], none⟩,
                  ⟨[(93, some (1, false)), (94, some (2, false))], [0, 1, 2, 3, 4, 5, 6, 7, 8, 9], none⟩,
                  ⟨[(102, some (10, false))], [0, 1, 2, 3, 4, 5, 6, 7, 8, 9, 10], none⟩,
                  ⟨[(103, some (11, false)), (101, some (9, false))], [0, 1, 2, 3, 4, 5, 6, 7, 8, 9, 10, 11], some (1, 0, true)⟩] [_, _, _, _] _ rfl rfl ?_
              refine dq_pure rfl (fun s => .g rfl (.nil)) (fun s hs _ => loc_fieldAddrOwn rfl) (by exact .nil) ?_
              first | refine dq_read rfl (fun s => .op rfl (.nil)) rfl rfl (fun s hs _ hm => LocP.upV (loc_loadOwn1 rfl hm (by rfl))) (by exact .nil) ?_ | refine dq_read rfl (fun s => .op rfl (.nil)) rfl rfl (fun s hs _ hm => loc_loadOwn1 rfl hm (by rfl)) (by exact .nil) ?_
              refine dq_pure rfl (fun s => .g rfl (.nil)) (fun s hs _ => loc_move rfl) (by exact .nil) ?_
              refine dq_pure rfl (fun s => .op rfl (.op rfl (.nil))) (fun s hs _ => loc_indexOwn rfl rfl (by first | omega | assumption)) (by exact .nil) ?_
              refine dq_pure rfl (fun s => .op rfl (.nil)) (fun s hs _ => loc_fieldAddrOwn rfl) (by exact .nil) ?_
              refine dq_read rfl (fun s => .op rfl (.nil)) rfl rfl (fun s hs _ hm => loc_loadBufF rfl hm (by exact buf_get (i := (pd.2.val (pd.1.begun.length : Nat)).toNat) (by omega) (by simp)) rfl) (by exact .nil) ?_
              refine dq_pure rfl (fun s => .g rfl (.nil)) (fun s hs _ => loc_move rfl) (by exact .nil) ?_
              refine dq_write rfl (fun s => .op rfl (.nil)) rfl rfl (fun s hs => loc_callM (pick_spec _ _ _ (by assumption) (by omega)) rfl) (by exact .nil) ?_
              first | refine dq_pure rfl (fun s => .op rfl (.nil)) (fun s hs _ => loc_sub rfl rfl (by first | omega | assumption)) (by exact .nil) ?_ | refine dq_pure rfl (fun s => .op rfl (.nil)) (fun s hs _ => loc_subW rfl rfl) (by exact .nil) ?_
              first | refine dq_pure rfl (fun s => .op rfl (.op rfl (.nil))) (fun s hs _ => loc_add rfl rfl (by first | omega | assumption)) (by exact .nil) ?_ | refine dq_pure rfl (fun s => .op rfl (.op rfl (.nil))) (fun s hs _ => loc_addW rfl rfl) (by exact .nil) ?_
              refine dq_pure rfl (fun s => .op rfl (.op rfl (.nil))) (fun s hs _ => loc_indexOwn rfl rfl (by first | omega | assumption)) (by exact .nil) ?_
              refine dq_pure rfl (fun s => .op rfl (.nil)) (fun s hs _ => loc_fieldAddrOwn rfl) (by exact .nil) ?_
              refine dq_write0 rfl (fun s => .op rfl (.op rfl (.nil))) rfl rfl (fun s hs => loc_storeBufF rfl rfl (by exact buf_get (i := (pd.2.val (pd.1.begun.length : Nat)).toNat) (by omega) (by simp)) (by decide)) (by exact .nil) ?_
              refine dq_end (rs := [_, _, _, _]) () rfl (fun _ => rfl) (.nil) rfl (fun _ _ => ?_)
              dsimp only [outG, outM, List.map, List.set, id]
              refine run_inBlock ?_
              refine run_shutRow (len := pd.1.begun.length) (cap := cq) (xs := pd.1.begun.set (pd.2.val (pd.1.begun.length : Nat)).toNat (⟨(pd.1.begun[(pd.2.val (pd.1.begun.length : Nat)).toNat]?.getD default).read, (pd.1.begun[(pd.2.val (pd.1.begun.length : Nat)).toNat]?.getD default).version, (pd.1.begun[(pd.2.val (pd.1.begun.length : Nat)).toNat]?.getD default).p, (pd.1.begun[(pd.2.val (pd.1.begun.length : Nat)).toNat]?.getD default).from', (pd.1.begun[(pd.2.val (pd.1.begun.length : Nat)).toNat]?.getD default).draws + (pd.2.next.next.val 3 - 1)⟩ : Strt)) (els' := junk 5 (cq - pd.1.begun.length)) (.there (.here)) (set_row (by omega) rfl) (by simp) (by simp [junk_length]; omega) hmq (by first | omega | (simp; omega)) ?_
              exact run_atF j7 ((⟨pd.1.seed, pd.1.drawn, pd.1.begun.set (pd.2.val (pd.1.begun.length : Nat)).toNat (⟨(pd.1.begun[(pd.2.val (pd.1.begun.length : Nat)).toNat]?.getD default).read, (pd.1.begun[(pd.2.val (pd.1.begun.length : Nat)).toNat]?.getD default).version, (pd.1.begun[(pd.2.val (pd.1.begun.length : Nat)).toNat]?.getD default).p, (pd.1.begun[(pd.2.val (pd.1.begun.length : Nat)).toNat]?.getD default).from', (pd.1.begun[(pd.2.val (pd.1.begun.length : Nat)).toNat]?.getD default).draws + (pd.2.next.next.val 3 - 1)⟩ : Strt)⟩, sl bq 5 0 pd.1.begun.length cq, pd.2.next.next.next)) (⟨by simp only [List.length_set]; omega, hd3⟩) (rfl) (.nil) (.cons rfl (fun _ _ x => x) (.cons rfl (fun _ _ x => x) (.cons rfl (fun _ _ x => x) (.cons rfl (fun _ _ x => x) (.cons rfl (fun _ _ x => x) (.cons rfl (fun _ _ x => x) (.cons rfl (fun _ _ x => x) (.cons rfl (fun _ _ x => x) (.cons rfl (fun _ _ x => x) (.nil))))))))))
            ·
              refine run_seq ?_
              refine run_region ?_
              refine run_op (loc_eql rfl rfl) rfl ?_
              refine run_op (loc_assign rfl) rfl ?_
              refine run_nil ?_
              refine run_cond rfl (fun h13 => ?_) (fun h13 => ?_)
              ·
                refine dr_start _ (.none) [⟨[(17, none)], [], none⟩,
                    ⟨[(106, some (0, false))], [0], some (0, 0, false)⟩,
                    ⟨[(18, none)], [], none⟩,
                    ⟨[(15, none)], [], none⟩,
                    ⟨[(109, some (3, false))], [3], some (2, 0, true)⟩,
                    ⟨[(107, some (1, false)), (108, some (2, false))], [0, 1, 2, 3, 4], none⟩,
                    ⟨[(111, some (5, false))], [0, 1, 2, 3, 4, 5], none⟩,
                    ⟨[(112, some (6, false)), (110, some (4, false))], [0, 1, 2, 3, 4, 5, 6], some (1, 0, true)⟩] [_, _, _, _] _ rfl rfl ?_
                refine dq_pure rfl (fun s => .g rfl (.nil)) (fun s hs _ => loc_fieldAddrOwn rfl) (by exact .nil) ?_
                first | refine dq_read rfl (fun s => .op rfl (.nil)) rfl rfl (fun s hs _ hm => LocP.upV (loc_loadOwn1 rfl hm (by rfl))) (by exact .nil) ?_ | refine dq_read rfl (fun s => .op rfl (.nil)) rfl rfl (fun s hs _ hm => loc_loadOwn1 rfl hm (by rfl)) (by exact .nil) ?_
                refine dq_pure rfl (fun s => .g rfl (.nil)) (fun s hs _ => loc_move rfl) (by exact .nil) ?_
                refine dq_pure rfl (fun s => .g rfl (.nil)) (fun s hs _ => loc_move rfl) (by exact .nil) ?_
                refine dq_write rfl (fun s => .op rfl (.nil)) rfl rfl (fun s hs => loc_callM (pick_spec _ _ _ (by assumption) (by omega)) rfl) (by exact .nil) ?_
                refine dq_pure rfl (fun s => .op rfl (.op rfl (.nil))) (fun s hs _ => loc_indexOwn rfl rfl (by first | omega | assumption)) (by exact .nil) ?_
                refine dq_pure rfl (fun s => .op rfl (.nil)) (fun s hs _ => loc_fieldAddrOwn rfl) (by exact .nil) ?_
                refine dq_write0 rfl (fun s => .op rfl (.op rfl (.nil))) rfl rfl (fun s hs => loc_storeBufF rfl rfl (by exact buf_get (i := (pd.2.val (pd.1.begun.length : Nat)).toNat) (by omega) (by simp)) (by decide)) (by exact .nil) ?_
                refine dq_end (rs := [_, _, _, _]) () rfl (fun _ => rfl) (.nil) rfl (fun _ _ => ?_)
                dsimp only [outG, outM, List.map, List.set, id]
                refine run_inBlock ?_
                refine run_shutRow (len := pd.1.begun.length) (cap := cq) (xs := pd.1.begun.set (pd.2.val (pd.1.begun.length : Nat)).toNat (⟨pd.2.next.next.val 6, (pd.1.begun[(pd.2.val (pd.1.begun.length : Nat)).toNat]?.getD default).version, (pd.1.begun[(pd.2.val (pd.1.begun.length : Nat)).toNat]?.getD default).p, (pd.1.begun[(pd.2.val (pd.1.begun.length : Nat)).toNat]?.getD default).from', (pd.1.begun[(pd.2.val (pd.1.begun.length : Nat)).toNat]?.getD default).draws⟩ : Strt)) (els' := junk 5 (cq - pd.1.begun.length)) (.there (.here)) (set_row (by omega) rfl) (by simp) (by simp [junk_length]; omega) hmq (by first | omega | (simp; omega)) ?_
                exact run_atF j7 ((⟨pd.1.seed, pd.1.drawn, pd.1.begun.set (pd.2.val (pd.1.begun.length : Nat)).toNat (⟨pd.2.next.next.val 6, (pd.1.begun[(pd.2.val (pd.1.begun.length : Nat)).toNat]?.getD default).version, (pd.1.begun[(pd.2.val (pd.1.begun.length : Nat)).toNat]?.getD default).p, (pd.1.begun[(pd.2.val (pd.1.begun.length : Nat)).toNat]?.getD default).from', (pd.1.begun[(pd.2.val (pd.1.begun.length : Nat)).toNat]?.getD default).draws⟩ : Strt)⟩, sl bq 5 0 pd.1.begun.length cq, pd.2.next.next.next)) (⟨by simp only [List.length_set]; omega, hd3⟩) (rfl) (.nil) (.cons rfl (fun _ _ x => x) (.cons rfl (fun _ _ x => x) (.cons rfl (fun _ _ x => x) (.cons rfl (fun _ _ x => x) (.cons rfl (fun _ _ x => x) (.cons rfl (fun _ _ x => x) (.cons rfl (fun _ _ x => x) (.cons rfl (fun _ _ x => x) (.cons rfl (fun _ _ x => x) (.nil))))))))))
              ·
                refine run_seq ?_
                refine run_region ?_
                refine run_op (loc_eql rfl rfl) rfl ?_
                refine run_op (loc_assign rfl) rfl ?_
                refine run_nil ?_
                refine run_cond rfl (fun h14 => ?_) (fun h14 => ?_)
                ·
                  refine dr_start _ (.none) [⟨[(17, none)], [], none⟩,
                      ⟨[(115, some (0, false))], [0], some (0, 0, false)⟩,
                      ⟨[(18, none)], [], none⟩,
                      ⟨[(15, none)], [], none⟩,
                      ⟨[(118, some (3, false))], [3], some (2, 0, true)⟩,
                      ⟨[(116, some (1, false)), (117, some (2, false))], [0, 1, 2, 3, 4], none⟩,
                      ⟨[(120, some (5, false))], [0, 1, 2, 3, 4, 5], none⟩,
                      ⟨[(121, some (6, false)), (119, some (4, false))], [0, 1, 2, 3, 4, 5, 6], some (1, 0, true)⟩] [_, _, _, _] _ rfl rfl ?_
                  refine dq_pure rfl (fun s => .g rfl (.nil)) (fun s hs _ => loc_fieldAddrOwn rfl) (by exact .nil) ?_
                  first | refine dq_read rfl (fun s => .op rfl (.nil)) rfl rfl (fun s hs _ hm => LocP.upV (loc_loadOwn1 rfl hm (by rfl))) (by exact .nil) ?_ | refine dq_read rfl (fun s => .op rfl (.nil)) rfl rfl (fun s hs _ hm => loc_loadOwn1 rfl hm (by rfl)) (by exact .nil) ?_
                  refine dq_pure rfl (fun s => .g rfl (.nil)) (fun s hs _ => loc_move rfl) (by exact .nil) ?_
                  refine dq_pure rfl (fun s => .g rfl (.nil)) (fun s hs _ => loc_move rfl) (by exact .nil) ?_
                  refine dq_write rfl (fun s => .op rfl (.nil)) rfl rfl (fun s hs => loc_callM (pick_spec _ _ _ (by assumption) (by omega)) rfl) (by exact .nil) ?_
                  refine dq_pure rfl (fun s => .op rfl (.op rfl (.nil))) (fun s hs _ => loc_indexOwn rfl rfl (by first | omega | assumption)) (by exact .nil) ?_
                  refine dq_pure rfl (fun s => .op rfl (.nil)) (fun s hs _ => loc_fieldAddrOwn rfl) (by exact .nil) ?_
                  refine dq_write0 rfl (fun s => .op rfl (.op rfl (.nil))) rfl rfl (fun s hs => loc_storeBufF rfl rfl (by exact buf_get (i := (pd.2.val (pd.1.begun.length : Nat)).toNat) (by omega) (by simp)) (by decide)) (by exact .nil) ?_
                  refine dq_end (rs := [_, _, _, _]) () rfl (fun _ => rfl) (.nil) rfl (fun _ _ => ?_)
                  dsimp only [outG, outM, List.map, List.set, id]
                  refine run_inBlock ?_
                  refine run_shutRow (len := pd.1.begun.length) (cap := cq) (xs := pd.1.begun.set (pd.2.val (pd.1.begun.length : Nat)).toNat (⟨(pd.1.begun[(pd.2.val (pd.1.begun.length : Nat)).toNat]?.getD default).read, (pd.1.begun[(pd.2.val (pd.1.begun.length : Nat)).toNat]?.getD default).version, pd.2.next.next.val 3, (pd.1.begun[(pd.2.val (pd.1.begun.length : Nat)).toNat]?.getD default).from', (pd.1.begun[(pd.2.val (pd.1.begun.length : Nat)).toNat]?.getD default).draws⟩ : Strt)) (els' := junk 5 (cq - pd.1.begun.length)) (.there (.here)) (set_row (by omega) rfl) (by simp) (by simp [junk_length]; omega) hmq (by first | omega | (simp; omega)) ?_
                  exact run_atF j7 ((⟨pd.1.seed, pd.1.drawn, pd.1.begun.set (pd.2.val (pd.1.begun.length : Nat)).toNat (⟨(pd.1.begun[(pd.2.val (pd.1.begun.length : Nat)).toNat]?.getD default).read, (pd.1.begun[(pd.2.val (pd.1.begun.length : Nat)).toNat]?.getD default).version, pd.2.next.next.val 3, (pd.1.begun[(pd.2.val (pd.1.begun.length : Nat)).toNat]?.getD default).from', (pd.1.begun[(pd.2.val (pd.1.begun.length : Nat)).toNat]?.getD default).draws⟩ : Strt)⟩, sl bq 5 0 pd.1.begun.length cq, pd.2.next.next.next)) (⟨by simp only [List.length_set]; omega, hd3⟩) (rfl) (.nil) (.cons rfl (fun _ _ x => x) (.cons rfl (fun _ _ x => x) (.cons rfl (fun _ _ x => x) (.cons rfl (fun _ _ x => x) (.cons rfl (fun _ _ x => x) (.cons rfl (fun _ _ x => x) (.cons rfl (fun _ _ x => x) (.cons rfl (fun _ _ x => x) (.cons rfl (fun _ _ x => x) (.nil))))))))))
                ·
                  refine run_region ?_
                  refine run_op (loc_move rfl) rfl ?_
                  refine run_callM rfl (.there (.there (.here))) (pick_spec _ _ _ (by assumption) (by omega)) rfl (fun s15 hs15 => ?_)
                  first | refine run_op (loc_add rfl rfl (by first | omega | assumption)) rfl ?_ | refine run_op (loc_addW rfl rfl) rfl ?_
                  refine run_op (loc_fieldAddrOwn rfl) rfl ?_
                  refine run_store1 rfl rfl (.here) (by rfl) ?_
                  refine run_nil ?_
                  refine run_inBlock ?_
                  refine run_shutRow (len := pd.1.begun.length) (cap := cq) (xs := pd.1.begun) (els' := junk 5 (cq - pd.1.begun.length)) (.there (.here)) rfl rfl (by simp [junk_length]; omega) hmq (by first | omega | (simp; omega)) ?_
                  exact run_atF j7 ((⟨pd.1.seed, 16384 + pd.2.next.next.val 2, pd.1.begun⟩, sl bq 5 0 pd.1.begun.length cq, pd.2.next.next.next)) (⟨by simp only [List.length_set]; omega, hd3⟩) (rfl) (.nil) (.cons rfl (fun _ _ x => x) (.cons rfl (fun _ _ x => x) (.cons rfl (fun _ _ x => x) (.cons rfl (fun _ _ x => x) (.cons rfl (fun _ _ x => x) (.cons rfl (fun _ _ x => x) (.cons rfl (fun _ _ x => x) (.cons rfl (fun _ _ x => x) (.cons rfl (fun _ _ x => x) (.nil))))))))))
        ·
          refine run_skip ?_
          exact run_atF j7 ((⟨pd.1.seed, pd.1.drawn, pd.1.begun⟩, v6, pd.2)) (⟨by simp only; omega, hdc⟩) (rfl) (.nil) (.cons rfl (fun _ _ x => x) (.cons rfl (fun _ _ x => x) (.cons rfl (fun _ _ x => x) (.cons rfl (fun _ _ x => x) (.cons rfl (fun _ _ x => x) (.cons rfl (fun _ _ x => x) (.cons rfl (fun _ _ x => x) (.cons rfl (fun _ _ x => x) (.cons rfl (fun _ _ x => x) (.nil))))))))))
      rintro y ⟨hyl, hyd⟩
      refine run_seq ?_
      first | refine run_freezeRowCellV (kk := 2) (.there (.here)) (.here) rfl ?_ | refine run_freezeRowCell (kk := 2) (.there (.here)) (.here) rfl ?_
      refine run_region ?_
      refine run_op (loc_move rfl) rfl ?_
      refine run_op (loc_call (newD_spec _) rfl) rfl ?_
      refine run_op (loc_move rfl) rfl ?_
      refine run_op (loc_extract rfl rfl) rfl ?_
      refine run_op (loc_extract rfl rfl) rfl ?_
      refine run_new (loc_allocOwn (by simp)) rfl (fun b16 _ => ?_)
      refine run_storeN (ho := (by show OneAll [_, _, _]; infer_instance)) rfl rfl (.here) (by rfl) ?_
      refine run_op (loc_assign rfl) rfl ?_
      refine run_nil ?_
      refine run_seq ?_
      refine run_region ?_
      refine run_op (loc_move rfl) rfl ?_
      refine run_op (loc_call (rnewD_spec _) rfl) rfl ?_
      refine run_op (loc_move rfl) rfl ?_
      refine run_op (loc_extract rfl rfl) rfl ?_
      refine run_op (loc_extract rfl rfl) rfl ?_
      refine run_new (loc_allocOwn (by simp)) rfl (fun b17 _ => ?_)
      refine run_storeN (ho := (by show OneAll [_, _, _]; infer_instance)) rfl rfl (.here) (by rfl) ?_
      refine run_op (loc_assign rfl) rfl ?_
      refine run_nil ?_
      refine run_seq ?_
      refine run_seq ?_
      refine run_region ?_
      refine run_op (loc_move rfl) rfl ?_
      refine run_op (loc_move rfl) rfl ?_
      refine run_op (loc_neq rfl rfl) rfl ?_
      refine run_op (loc_move rfl) rfl ?_
      refine run_gfirst rfl rfl (by first | exact guard_true _ | exact guard_false _ | exact guard_if (guard_true _) | exact guard_if (guard_false _)) (fun hg => loc_loadOwnN rfl (.there (.here)) (by rfl)) rfl ?_
      refine run_gop rfl rfl (by first | exact guard_true _ | exact guard_false _ | exact guard_if (guard_true _) | exact guard_if (guard_false _)) (fun hg => loc_loadOwnN rfl (.here) (by rfl)) rfl ?_
      refine run_gop rfl rfl (by first | exact guard_true _ | exact guard_false _ | exact guard_if (guard_true _) | exact guard_if (guard_false _)) (fun hg => loc_call (rsameD_spec _ _) rfl) rfl ?_
      refine run_gop rfl rfl (by first | exact guard_true _ | exact guard_false _ | exact guard_if (guard_true _) | exact guard_if (guard_false _)) (fun hg => loc_not rfl) rfl ?_
      refine run_gleave ?_
      refine run_op (loc_or rfl rfl) rfl ?_
      refine run_nil ?_
      refine run_cond rfl (fun h18 => ?_) (fun h18 => ?_)
      · exfalso; simp at h18
      ·
        refine run_skip ?_
        refine run_seq ?_
        refine run_seq ?_
        refine run_region ?_
        refine run_op (loc_loadOwnN rfl (.there (.there (.there (.there (.here))))) (by rfl)) rfl ?_
        refine run_op (loc_loadOwnN rfl (.there (.there (.here))) (by rfl)) rfl ?_
        refine run_op (loc_loadN rfl rfl) rfl ?_
        refine run_op (loc_buildSlice rfl rfl (.agg rfl (.agg rfl (.agg rfl (.nil)))) rfl rfl) rfl ?_
        refine runL_recast (s := 144) rfl (d_sl (ys := [pd.1, y.1, raw]) (h := cDisk) rfl) ?_
        have hz : ∀ z ∈ ([pd.1, y.1, raw] : List Disk), z.begun.length ≤ 64 := by
          intro z hz; simp only [List.mem_cons, List.not_mem_nil, or_false] at hz; rcases hz with rfl | rfl | rfl <;> omega
        generalize ([pd.1, y.1, raw] : List Disk) = zs at hz ⊢
        first | refine runL_fact (s := 144) rfl (fun _ _ h => dSl_len h) (fun hlen19 => ?_) | skip
        refine run_op (loc_len rfl) rfl ?_
        refine run_op (loc_move rfl) rfl ?_
        refine run_nil ?_
        refine run_block ?_
        refine run_front (.there (.there (.there (.here)))) ?_
        refine run_loopF (σ := Nat × Dc) (ks := [3, 4, 5, 6, 15, 16, 144, 145]) (.cons rfl (.cons rfl (.cons rfl (.cons rfl (.cons rfl (.cons rfl (.cons rfl (.cons rfl (.nil))))))))) (fun s => [(146, dInt .i64 (s.1 : Nat))]) (fun s => [rDc vd s.2]) (fun s => s.1 ≤ zs.length ∧ okDc s.2) (fun s => zs.length - s.1) ((0, y.2.2)) (⟨Nat.zero_le _, hyd⟩) (.cons rfl (by first | exact fun _ _ h => h | exact d_int (by omega) | exact d_int (by simp) | exact d_intN (by omega) | exact d_any) .nil) (rfl) ?_
        rintro s ⟨hs, hds⟩ ih20
        have hds1 := Dc.next_ok hds
        have hds2 := Dc.next_ok hds1
        have hds3 := Dc.next_ok hds2
        have hzb : s.1 < zs.length → (zs[s.1]?.getD default).begun.length ≤ 64 := fun h => hz _ (getD_mem h)
        refine run_seq ?_
        refine run_region ?_
        refine run_op (loc_lss rfl rfl) rfl ?_
        refine run_nil ?_
        refine run_seq ?_
        refine run_cond rfl (fun h21 => ?_) (fun h21 => ?_)
        ·
          replace hzb := hzb (by omega)
          refine run_skip ?_
          refine run_seq ?_
          refine run_block ?_
          refine run_seq ?_
          refine run_region ?_
          first | refine run_op (loc_index rfl rfl (by first | omega | assumption)) rfl ?_ | refine run_op (loc_indexI rfl rfl (by first | omega | assumption)) rfl ?_
          refine run_op (loc_loadN rfl rfl) rfl ?_
          refine run_new (loc_allocOwn (by simp)) rfl (fun b22 _ => ?_)
          refine run_storeN (ho := (by show OneAll [_, _, _]; infer_instance)) rfl rfl (.here) (by rfl) ?_
          refine run_nil ?_
          refine run_freezeCells (s := 24) rfl (.here) ?_
          refine run_seq ?_
          refine run_seq ?_
          refine dr_start _ (.none) [⟨[(24, none)], [], none⟩,
              ⟨[(150, some (0, false))], [0], none⟩,
              ⟨[(24, none)], [], none⟩,
              ⟨[(152, some (2, false))], [0, 1, 2], none⟩,
              ⟨[(151, some (1, false)), (153, some (3, false))], [0, 1, 2, 3], none⟩,
              ⟨[(154, some (4, false))], [0, 1, 2, 3, 4], none⟩,
              ⟨[(24, none)], [0, 1, 2, 3, 4, 5], none⟩,
              ⟨[(156, some (6, true))], [0, 1, 2, 3, 4, 5, 6], none⟩,
              ⟨[(157, some (7, true))], [0, 1, 2, 3, 4, 5, 6, 7], none⟩,
              ⟨[(24, none)], [0, 1, 2, 3, 4, 5, 6, 7, 8], none⟩,
              ⟨[(159, some (9, true))], [0, 1, 2, 3, 4, 5, 6, 7, 8, 9], none⟩,
              ⟨[(24, none)], [0, 1, 2, 3, 4, 5, 6, 7, 8], none⟩,
              ⟨[(161, some (11, true))], [0, 1, 2, 3, 4, 5, 6, 7, 8, 9, 10, 11], none⟩,
              ⟨[(160, some (10, true)), (162, some (12, true))], [0, 1, 2, 3, 4, 5, 6, 7, 8, 9, 10, 11, 12], none⟩,
              ⟨[(158, some (8, true)), (163, some (13, false))], [0, 1, 2, 3, 4, 5, 6, 7, 8, 9, 10, 11, 12, 13], none⟩,
              ⟨[(155, some (5, false)), (164, some (14, false))], [0, 1, 2, 3, 4, 5, 6, 7, 8, 9, 10, 11, 12, 13, 14], none⟩,
              ⟨[(165, some (15, false))], [0, 1, 2, 3, 4, 5, 6, 7, 8, 9, 10, 11, 12, 13, 14, 15], none⟩,
              ⟨[(24, none)], [0, 1, 2, 3, 4, 5, 6, 7, 8, 9, 10, 11, 12, 13, 14, 15, 16], none⟩,
              ⟨[(16, none)], [0, 1, 2, 3, 4, 5, 6, 7, 8, 9, 10, 11, 12, 13, 14, 15, 16], some (4, 0, false)⟩,
              ⟨[(167, some (17, true)), (168, some (18, true))], [0, 1, 2, 3, 4, 5, 6, 7, 8, 9, 10, 11, 12, 13, 14, 15, 16, 17, 18], none⟩,
              ⟨[(24, none)], [0, 1, 2, 3, 4, 5, 6, 7, 8, 9, 10, 11, 12, 13, 14, 15, 16], none⟩,
              ⟨[(16, none)], [0, 1, 2, 3, 4, 5, 6, 7, 8, 9, 10, 11, 12, 13, 14, 15, 16], some (4, 0, false)⟩,
              ⟨[(170, some (20, true)), (171, some (21, true))], [0, 1, 2, 3, 4, 5, 6, 7, 8, 9, 10, 11, 12, 13, 14, 15, 16, 17, 18, 19, 20, 21], none⟩,
              ⟨[(169, some (19, true)), (172, some (22, true))], [0, 1, 2, 3, 4, 5, 6, 7, 8, 9, 10, 11, 12, 13, 14, 15, 16, 17, 18, 19, 20, 21, 22], none⟩,
              ⟨[(166, some (16, false)), (173, some (23, false))], [0, 1, 2, 3, 4, 5, 6, 7, 8, 9, 10, 11, 12, 13, 14, 15, 16, 17, 18, 19, 20, 21, 22, 23], none⟩] [_, _, _, _, _] _ rfl rfl ?_
          refine dq_pure rfl (fun s => .g rfl (.nil)) (fun s hs _ => loc_loadN rfl rfl) (by exact .nil) ?_
          refine dq_pure rfl (fun s => .op rfl (.nil)) (fun s hs _ => loc_call (validD_spec _) rfl) (by exact .nil) ?_
          refine dq_pure rfl (fun s => .g rfl (.nil)) (fun s hs _ => loc_loadN rfl rfl) (by exact .nil) ?_
          refine dq_pure rfl (fun s => .op rfl (.nil)) (fun s hs _ => loc_call (rvalidD_spec _) rfl) (by exact .nil) ?_
          refine dq_pure rfl (fun s => .op rfl (.op rfl (.nil))) (fun s hs _ => loc_neqB rfl rfl) (by exact .nil) ?_
          refine dq_pure rfl (fun s => .op rfl (.nil)) (fun s hs _ => loc_move rfl) (by exact .nil) ?_
          refine dq_gpure rfl (fun s => .g rfl (.nil)) rfl (fun _ => by first | exact guard_true _ | exact guard_false _ | exact guard_if (guard_true _) | exact guard_if (guard_false _)) (fun s hs hg _ => loc_loadN rfl rfl) (by exact .nil) ?_
          refine dq_gpure rfl (fun s => .opU rfl (.nil)) rfl (fun _ => by first | exact guard_true _ | exact guard_false _ | exact guard_if (guard_true _) | exact guard_if (guard_false _)) (fun s hs hg _ => loc_call (rvalidD_spec _) rfl) (by exact .nil) ?_
          refine dq_gpure rfl (fun s => .opU rfl (.nil)) rfl (fun _ => by first | exact guard_true _ | exact guard_false _ | exact guard_if (guard_true _) | exact guard_if (guard_false _)) (fun s hs hg _ => loc_move rfl) (by exact .nil) ?_
          refine dq_gpure rfl (fun s => .g rfl (.nil)) rfl (fun _ => by first | exact guard_true _ | exact guard_false _ | exact guard_if (guard_true _) | exact guard_if (guard_false _)) (fun s hs hg _ => loc_loadN rfl rfl) (by exact .nil) ?_
          refine dq_gpure rfl (fun s => .opU rfl (.nil)) rfl (fun _ => by first | exact guard_true _ | exact guard_false _ | exact guard_if (guard_true _) | exact guard_if (guard_false _)) (fun s hs hg _ => loc_call (apart_spec _ (by first | assumption | exact hg.2)) rfl) (by exact .nil) ?_
          refine dq_gpure rfl (fun s => .g rfl (.nil)) rfl (fun _ => by first | exact guard_true _ | exact guard_false _ | exact guard_if (guard_true _) | exact guard_if (guard_false _)) (fun s hs hg _ => loc_loadN rfl rfl) (by exact .nil) ?_
          refine dq_gpure rfl (fun s => .opU rfl (.nil)) rfl (fun _ => by first | exact guard_true _ | exact guard_false _ | exact guard_if (guard_true _) | exact guard_if (guard_false _)) (fun s hs hg _ => loc_call (rapart_spec _ (by first | assumption | exact hg.2)) rfl) (by exact .nil) ?_
          refine dq_gpure rfl (fun s => .opU rfl (.opU rfl (.nil))) rfl (fun _ => by first | exact guard_true _ | exact guard_false _ | exact guard_if (guard_true _) | exact guard_if (guard_false _)) (fun s hs hg _ => loc_neqB rfl rfl) (by exact .nil) ?_
          first | refine dq_gpure rfl (fun s => .opU rfl (.op rfl (.nil))) rfl (fun _ => by first | exact guard_true _ | exact guard_false _ | exact guard_if (guard_true _) | exact guard_if (guard_false _)) (fun s hs hg _ => loc_and rfl rfl) (by exact .nil) ?_ | refine dq_gpure rfl (fun s => .opU rfl (.op rfl (.nil))) rfl (fun _ => by first | exact guard_true _ | exact guard_false _ | exact guard_if (guard_true _) | exact guard_if (guard_false _)) (fun s hs hg _ => loc_andG hg rfl rfl) (by exact .nil) ?_ | refine dq_gpure rfl (fun s => .opU rfl (.op rfl (.nil))) rfl (fun _ => by first | exact guard_true _ | exact guard_false _ | exact guard_if (guard_true _) | exact guard_if (guard_false _)) (fun s hs hg _ => loc_andH hg rfl rfl) (by exact .nil) ?_
          refine dq_pure rfl (fun s => .op rfl (.op rfl (.nil))) (fun s hs _ => loc_or rfl rfl) (by exact .nil) ?_
          refine dq_pure rfl (fun s => .op rfl (.nil)) (fun s hs _ => loc_move rfl) (by exact .nil) ?_
          refine dq_gpure rfl (fun s => .g rfl (.nil)) rfl (fun _ => by first | exact guard_true _ | exact guard_false _ | exact guard_if (guard_true _) | exact guard_if (guard_false _)) (fun s hs hg _ => loc_loadN rfl rfl) (by exact .nil) ?_
          refine dq_gread rfl (fun s => .g rfl (.nil)) rfl rfl rfl (fun _ => by first | exact guard_true _ | exact guard_false _ | exact guard_if (guard_true _) | exact guard_if (guard_false _)) (fun s hs hg _ hm => loc_loadOwnN rfl hm (by rfl)) (by exact .nil) ?_
          refine dq_gpure rfl (fun s => .opU rfl (.opU rfl (.nil))) rfl (fun _ => by first | exact guard_true _ | exact guard_false _ | exact guard_if (guard_true _) | exact guard_if (guard_false _)) (fun s hs hg _ => loc_call (sameD_spec _ _) rfl) (by exact .nil) ?_
          refine dq_gpure rfl (fun s => .g rfl (.nil)) rfl (fun _ => by first | exact guard_true _ | exact guard_false _ | exact guard_if (guard_true _) | exact guard_if (guard_false _)) (fun s hs hg _ => loc_loadN rfl rfl) (by exact .nil) ?_
          refine dq_gread rfl (fun s => .g rfl (.nil)) rfl rfl rfl (fun _ => by first | exact guard_true _ | exact guard_false _ | exact guard_if (guard_true _) | exact guard_if (guard_false _)) (fun s hs hg _ hm => loc_loadOwnN rfl hm (by rfl)) (by exact .nil) ?_
          refine dq_gpure rfl (fun s => .opU rfl (.opU rfl (.nil))) rfl (fun _ => by first | exact guard_true _ | exact guard_false _ | exact guard_if (guard_true _) | exact guard_if (guard_false _)) (fun s hs hg _ => loc_call (rsameD_spec _ _) rfl) (by exact .nil) ?_
          refine dq_gpure rfl (fun s => .opU rfl (.opU rfl (.nil))) rfl (fun _ => by first | exact guard_true _ | exact guard_false _ | exact guard_if (guard_true _) | exact guard_if (guard_false _)) (fun s hs hg _ => loc_neqB rfl rfl) (by exact .nil) ?_
          refine dq_pure rfl (fun s => .op rfl (.op rfl (.nil))) (fun s hs _ => loc_or rfl rfl) (by exact .nil) ?_
          refine dq_end (rs := [_, _, _, _, _]) () rfl (fun _ => rfl) (.nil) rfl (fun _ _ => ?_)
          dsimp only [outG, outM, List.map, List.set, id]
          refine run_cond rfl (fun h23 => ?_) (fun h23 => ?_)
          · exfalso; simp at h23
          ·
            refine run_skip ?_
            refine run_seq ?_
            refine run_seq ?_
            refine dr_start _ (.none) [⟨[(3, none)], [], none⟩,
                ⟨[(4, none)], [], none⟩,
                ⟨[(5, none)], [], none⟩,
                ⟨[(6, none)], [], none⟩,
                ⟨[(175, some (0, false)), (176, some (1, false)), (177, some (2, false)), (178, some (3, false))], [0, 1, 2, 3], none⟩,
                ⟨[(15, none)], [], none⟩,
                ⟨[(180, some (5, false))], [5], some (0, 0, true)⟩,
                ⟨[(15, none)], [], none⟩,
                ⟨[(182, some (7, false))], [5, 6, 7], some (0, 1, true)⟩,
                ⟨[(181, some (6, false)), (183, some (8, false))], [5, 6, 7, 8], none⟩,
                ⟨[(24, none)], [], none⟩,
                ⟨[(185, some (10, false))], [10], none⟩,
                ⟨[(186, some (11, false))], [10, 11], none⟩,
                ⟨[(187, some (12, false))], [10, 11, 12], none⟩,
                ⟨[(24, none)], [], none⟩,
                ⟨[(189, some (14, false))], [14], none⟩,
                ⟨[(190, some (15, false))], [14, 15], none⟩,
                ⟨[(191, some (16, false))], [14, 15, 16], none⟩,
                ⟨[(192, some (17, false))], [14, 15, 16, 17], none⟩,
                ⟨[], [], none⟩,
                ⟨[], [], none⟩,
                ⟨[(179, some (4, false)), (184, some (9, false)), (188, some (13, false)), (193, some (18, false)), (194, some (19, false)), (195, some (20, false))], [0, 1, 2, 3, 4, 5, 6, 7, 8, 9, 10, 11, 12, 13, 14, 15, 16, 17, 18, 19, 20], none⟩,
                ⟨[(196, some (21, false))], [0, 1, 2, 3, 4, 5, 6, 7, 8, 9, 10, 11, 12, 13, 14, 15, 16, 17, 18, 19, 20, 21], none⟩,
                ⟨[], [], none⟩] [_, _, _, _, _] _ rfl rfl ?_
            refine dq_pure rfl (fun s => .g rfl (.nil)) (fun s hs _ => loc_move rfl) (by exact .nil) ?_
            refine dq_pure rfl (fun s => .g rfl (.nil)) (fun s hs _ => loc_move rfl) (by exact .nil) ?_
            refine dq_pure rfl (fun s => .g rfl (.nil)) (fun s hs _ => loc_move rfl) (by exact .nil) ?_
            refine dq_pure rfl (fun s => .g rfl (.nil)) (fun s hs _ => loc_move rfl) (by exact .nil) ?_
            refine dq_pure rfl (fun s => .op rfl (.op rfl (.op rfl (.op rfl (.nil))))) (fun s hs _ => loc_buildA (e := 3) (len := 4) [(0, 1), (1, 1), (2, 1), (3, 1)] (by kernel_rfl) rfl (.one rfl rfl rfl (.one rfl rfl rfl (.one rfl rfl rfl (.one rfl rfl rfl (.nil)))))) (by exact .nil) ?_
            refine dq_pure rfl (fun s => .g rfl (.nil)) (fun s hs _ => loc_move rfl) (by exact .nil) ?_
            refine dq_write rfl (fun s => .op rfl (.nil)) rfl rfl (fun s hs => loc_callM (pick_spec _ _ _ (by assumption) (by omega)) rfl) (by exact .nil) ?_
            refine dq_pure rfl (fun s => .g rfl (.nil)) (fun s hs _ => loc_move rfl) (by exact .nil) ?_
            refine dq_write rfl (fun s => .op rfl (.nil)) rfl rfl (fun s hs => loc_callM (pick_spec _ _ _ (by assumption) (by omega)) rfl) (by exact .nil) ?_
            refine dq_pure rfl (fun s => .op rfl (.op rfl (.nil))) (fun s hs _ => loc_buildA (e := 3) (len := 4) [(0, 1), (1, 1), (2, 1), (3, 1)] (by kernel_rfl) rfl (.one rfl rfl rfl (.one rfl rfl rfl (.one rfl rfl rfl (.one rfl rfl rfl (.nil)))))) (by exact .nil) ?_
            refine dq_pure rfl (fun s => .g rfl (.nil)) (fun s hs _ => loc_fieldAddr rfl) (by exact .nil) ?_
            refine dq_pure rfl (fun s => .op rfl (.nil)) (fun s hs _ => loc_load1 rfl) (by exact .nil) ?_
            first | refine dq_pure rfl (fun s => .op rfl (.nil)) (fun s hs _ => loc_sub rfl rfl (by first | omega | assumption)) (by exact .nil) ?_ | refine dq_pure rfl (fun s => .op rfl (.nil)) (fun s hs _ => loc_subW rfl rfl) (by exact .nil) ?_
            refine dq_pure rfl (fun s => .op rfl (.nil)) (fun s hs _ => loc_buildA (e := 3) (len := 4) [(0, 1), (1, 1), (2, 1), (3, 1)] (by kernel_rfl) rfl (.one rfl rfl rfl (.one rfl rfl rfl (.one rfl rfl rfl (.one rfl rfl rfl (.nil)))))) (by exact .nil) ?_
            refine dq_pure rfl (fun s => .g rfl (.nil)) (fun s hs _ => loc_fieldAddr rfl) (by exact .nil) ?_
            refine dq_pure rfl (fun s => .op rfl (.nil)) (fun s hs _ => loc_load1 rfl) (by exact .nil) ?_
            first | refine dq_pure rfl (fun s => .op rfl (.nil)) (fun s hs _ => loc_sub rfl rfl (by first | omega | assumption)) (by exact .nil) ?_ | refine dq_pure rfl (fun s => .op rfl (.nil)) (fun s hs _ => loc_subW rfl rfl) (by exact .nil) ?_
            first | refine dq_pure rfl (fun s => .op rfl (.nil)) (fun s hs _ => loc_add rfl rfl (by first | omega | assumption)) (by exact .nil) ?_ | refine dq_pure rfl (fun s => .op rfl (.nil)) (fun s hs _ => loc_addW rfl rfl) (by exact .nil) ?_
            refine dq_pure rfl (fun s => .op rfl (.nil)) (fun s hs _ => loc_buildA (e := 3) (len := 4) [(0, 1), (1, 1), (2, 1), (3, 1)] (by kernel_rfl) rfl (.one rfl rfl rfl (.one rfl rfl rfl (.one rfl rfl rfl (.one rfl rfl rfl (.nil)))))) (by exact .nil) ?_
            refine dq_pure rfl (fun s => .nil) (fun s hs _ => loc_buildA (e := 3) (len := 4) [(0, 1), (1, 1), (2, 1), (3, 1)] (by kernel_rfl) rfl (.one rfl rfl rfl (.one rfl rfl rfl (.one rfl rfl rfl (.one rfl rfl rfl (.nil)))))) (by exact .nil) ?_
            refine dq_pure rfl (fun s => .nil) (fun s hs _ => loc_buildA (e := 3) (len := 4) [(0, 1), (1, 1), (2, 1), (3, 1)] (by kernel_rfl) rfl (.one rfl rfl rfl (.one rfl rfl rfl (.one rfl rfl rfl (.one rfl rfl rfl (.nil)))))) (by exact .nil) ?_
            refine dq_pure rfl (fun s => .op rfl (.op rfl (.op rfl (.op rfl (.op rfl (.op rfl (.nil))))))) (fun s hs _ => loc_buildSlice rfl rfl (.agg rfl (.agg rfl (.agg rfl (.agg rfl (.agg rfl (.agg rfl (.nil))))))) rfl rfl) (by exact .nil) ?_
            refine dq_pure rfl (fun s => .op rfl (.nil)) (fun s hs _ => loc_len rfl) (by exact .nil) ?_
            refine dq_pure rfl (fun s => .nil) (fun s hs _ => loc_move rfl) (by exact .nil) ?_
            refine dq_end (rs := [_, _, _, _, _]) () rfl (fun _ => rfl) (.nil) rfl (fun _ _ => ?_)
            dsimp only [outG, outM, List.map, List.set, id]
            refine run_recast (s := 196) rfl (d_sl (ys := [(u, v, p, n), (s.2.val 6, 1, 7, _), (9, 1, 2, _), (9, 1, 2, _), (9, 0, 2, 1), (9, 1, 65522, 1)]) (h := f4) rfl) ?_
            refine run_recast (s := 197) rfl (d_int (n := ((6 : Nat) : Int)) rfl) ?_
            generalize hks : ([(u, v, p, n), (s.2.val 6, 1, 7, _), (9, 1, 2, _), (9, 1, 2, _), (9, 0, 2, 1), (9, 1, 65522, 1)] : List (Int × Int × Int × Int)) = ks
            have hkl : ks.length = 6 := by rw [← hks]; rfl
            refine run_block ?_
            refine run_loopC (σ := Nat) (ks := [3, 4, 5, 6, 15, 16, 24, 144, 145, 146, 196, 197]) (.cons rfl (.cons rfl (.cons rfl (.cons rfl (.cons rfl (.cons rfl (.cons rfl (.cons rfl (.cons rfl (.cons rfl (.cons rfl (.cons rfl (.nil))))))))))))) (fun i => [(198, dInt .i64 (i : Nat))]) (fun i => i ≤ 6) (fun i => 6 - i) (0) ((by omega)) (.cons rfl (by first | exact fun _ _ h => h | exact d_int (by omega) | exact d_int (by simp) | exact d_intN (by omega) | exact d_any) .nil) ?_
            intro i hi ih24
            refine run_seq ?_
            refine run_region ?_
            refine run_op (loc_lss rfl rfl) rfl ?_
            refine run_nil ?_
            refine run_seq ?_
            refine run_cond rfl (fun h25 => ?_) (fun h25 => ?_)
            ·
              refine run_skip ?_
              refine run_seq ?_
              refine run_block ?_
              refine run_seq ?_
              refine run_region ?_
              first | refine run_op (loc_index rfl rfl (by first | omega | assumption)) rfl ?_ | refine run_op (loc_indexI rfl rfl (by first | omega | assumption)) rfl ?_
              refine run_op (loc_loadN rfl rfl) rfl ?_
              refine run_new (loc_allocOwn (by simp)) rfl (fun b26 _ => ?_)
              refine run_storeN (ho := (by show OneAll [_, _, _, _]; infer_instance)) rfl rfl (.here) (by rfl) ?_
              refine run_nil ?_
              refine run_seq ?_
              refine run_seq ?_
              refine run_region ?_
              refine run_op (loc_indexArrOwn (e := 3) (len := 4) (by kernel_rfl) rfl rfl (by omega)) rfl ?_
              refine run_op (loc_loadOwn1 rfl (.here) (by rfl)) rfl ?_
              refine run_op (loc_gtr rfl rfl) rfl ?_
              refine run_op (loc_move rfl) rfl ?_
              refine run_gfirst rfl rfl (by first | exact guard_true _ | exact guard_false _ | exact guard_if (guard_true _) | exact guard_if (guard_false _)) (fun hg => loc_indexArrOwn (e := 3) (len := 4) (by kernel_rfl) rfl rfl (by omega)) rfl ?_
              refine run_gop rfl rfl (by first | exact guard_true _ | exact guard_false _ | exact guard_if (guard_true _) | exact guard_if (guard_false _)) (fun hg => loc_loadOwn1 rfl (.here) (by rfl)) rfl ?_
              refine run_gop rfl rfl (by first | exact guard_true _ | exact guard_false _ | exact guard_if (guard_true _) | exact guard_if (guard_false _)) (fun hg => loc_lss rfl rfl) rfl ?_
              refine run_gleave ?_
              refine run_op (loc_or rfl rfl) rfl ?_
              refine run_nil ?_
              refine run_joinF (σ := Int) (ks := [3, 4, 5, 6, 15, 16, 24, 26, 144, 145, 146, 196, 197, 198]) _ (.cons rfl (.cons rfl (.cons rfl (.cons rfl (.cons rfl (.cons rfl (.cons rfl (.cons rfl (.cons rfl (.cons rfl (.cons rfl (.cons rfl (.cons rfl (.cons rfl (.nil))))))))))))))) (fun c => []) (fun c => [rCells b26 74 [dInt .i64 (ks[i]?.getD default).1, dInt .i64 (ks[i]?.getD default).2.1, dInt .i64 (ks[i]?.getD default).2.2.1, dInt .i64 c]]) (fun c => -65536 ≤ c ∧ c ≤ 65536) ⟨[_], rfl⟩ (fun j26 => ?_) ?_
              ·
                refine run_cond rfl (fun h27 => ?_) (fun h27 => ?_)
                ·
                  refine run_region ?_
                  refine run_op (loc_indexArrOwn (e := 3) (len := 4) (by kernel_rfl) rfl rfl (by omega)) rfl ?_
                  refine run_store1 rfl rfl (.here) (by rfl) ?_
                  refine run_nil ?_
                  exact run_atF j26 (65536) ((by omega)) (rfl) (.nil) (.cons rfl (fun _ _ x => x) (.cons rfl (fun _ _ x => x) (.cons rfl (fun _ _ x => x) (.cons rfl (fun _ _ x => x) (.cons rfl (fun _ _ x => x) (.cons rfl (fun _ _ x => x) (.cons rfl (fun _ _ x => x) (.cons rfl (fun _ _ x => x) (.cons rfl (fun _ _ x => x) (.cons rfl (fun _ _ x => x) (.cons rfl (fun _ _ x => x) (.cons rfl (fun _ _ x => x) (.cons rfl (fun _ _ x => x) (.cons rfl (fun _ _ x => x) (.nil)))))))))))))))
                ·
                  refine run_skip ?_
                  exact run_atF j26 ((ks[i]?.getD default).2.2.2) ((by omega)) (rfl) (.nil) (.cons rfl (fun _ _ x => x) (.cons rfl (fun _ _ x => x) (.cons rfl (fun _ _ x => x) (.cons rfl (fun _ _ x => x) (.cons rfl (fun _ _ x => x) (.cons rfl (fun _ _ x => x) (.cons rfl (fun _ _ x => x) (.cons rfl (fun _ _ x => x) (.cons rfl (fun _ _ x => x) (.cons rfl (fun _ _ x => x) (.cons rfl (fun _ _ x => x) (.cons rfl (fun _ _ x => x) (.cons rfl (fun _ _ x => x) (.cons rfl (fun _ _ x => x) (.nil)))))))))))))))
              rintro c hc
              refine run_seq ?_
              refine run_region ?_
              refine run_op (loc_loadN rfl rfl) rfl ?_
              refine run_op (loc_indexArrOwn (e := 3) (len := 4) (by kernel_rfl) rfl rfl (by omega)) rfl ?_
              refine run_op (loc_loadOwn1 rfl (.here) (by rfl)) rfl ?_
              refine run_op (loc_indexArrOwn (e := 3) (len := 4) (by kernel_rfl) rfl rfl (by omega)) rfl ?_
              refine run_op (loc_loadOwn1 rfl (.here) (by rfl)) rfl ?_
              refine run_op (loc_indexArrOwn (e := 3) (len := 4) (by kernel_rfl) rfl rfl (by omega)) rfl ?_
              refine run_op (loc_loadOwn1 rfl (.here) (by rfl)) rfl ?_
              refine run_op (loc_indexArrOwn (e := 3) (len := 4) (by kernel_rfl) rfl rfl (by omega)) rfl ?_
              refine run_op (loc_loadOwn1 rfl (.here) (by rfl)) rfl ?_
              refine run_op (loc_call (begin_spec _ _ _ _ _ (by omega) (by omega)) rfl) rfl ?_
              refine run_op (loc_move rfl) rfl ?_
              refine run_op (loc_extract rfl rfl) rfl ?_
              refine run_op (loc_extract rfl rfl) rfl ?_
              refine run_op (loc_extract rfl rfl) rfl ?_
              refine run_new (loc_allocOwn (by simp)) rfl (fun b28 _ => ?_)
              refine run_new (loc_allocOwn (by simp)) rfl (fun b29 _ => ?_)
              refine run_storeN (ho := (by show OneAll [_, _, _]; infer_instance)) rfl rfl (.there (.here)) (by rfl) ?_
              refine run_storeN (ho := (by show OneAll [_, _]; infer_instance)) rfl rfl (.here) (by rfl) ?_
              refine run_op (loc_assign rfl) rfl ?_
              refine run_nil ?_
              refine run_seq ?_
              refine run_region ?_
              refine run_op (loc_loadN rfl rfl) rfl ?_
              refine run_op (loc_indexArrOwn (e := 3) (len := 4) (by kernel_rfl) rfl rfl (by omega)) rfl ?_
              refine run_op (loc_loadOwn1 rfl (.there (.there (.here))) (by rfl)) rfl ?_
              refine run_op (loc_indexArrOwn (e := 3) (len := 4) (by kernel_rfl) rfl rfl (by omega)) rfl ?_
              refine run_op (loc_loadOwn1 rfl (.there (.there (.here))) (by rfl)) rfl ?_
              refine run_op (loc_indexArrOwn (e := 3) (len := 4) (by kernel_rfl) rfl rfl (by omega)) rfl ?_
              refine run_op (loc_loadOwn1 rfl (.there (.there (.here))) (by rfl)) rfl ?_
              refine run_op (loc_indexArrOwn (e := 3) (len := 4) (by kernel_rfl) rfl rfl (by omega)) rfl ?_
              refine run_op (loc_loadOwn1 rfl (.there (.there (.here))) (by rfl)) rfl ?_
              refine run_op (loc_call (rbegin_spec _ _ _ _ _ (by omega)) rfl) rfl ?_
              refine run_op (loc_move rfl) rfl ?_
              refine run_op (loc_extract rfl rfl) rfl ?_
              refine run_op (loc_extract rfl rfl) rfl ?_
              refine run_op (loc_extract rfl rfl) rfl ?_
              refine run_new (loc_allocOwn (by simp)) rfl (fun b30 _ => ?_)
              refine run_new (loc_allocOwn (by simp)) rfl (fun b31 _ => ?_)
              refine run_storeN (ho := (by show OneAll [_, _, _]; infer_instance)) rfl rfl (.there (.here)) (by rfl) ?_
              refine run_storeN (ho := (by show OneAll [_, _]; infer_instance)) rfl rfl (.here) (by rfl) ?_
              refine run_op (loc_assign rfl) rfl ?_
              refine run_nil ?_
              refine run_seq ?_
              refine run_region ?_
              refine run_op (loc_move rfl) rfl ?_
              refine run_op (loc_move rfl) rfl ?_
              refine run_op (loc_neq rfl rfl) rfl ?_
              refine run_op (loc_move rfl) rfl ?_
              refine run_gfirst rfl rfl (by first | exact guard_true _ | exact guard_false _ | exact guard_if (guard_true _) | exact guard_if (guard_false _)) (fun hg => loc_loadOwnN rfl (.there (.there (.there (.here)))) (by rfl)) rfl ?_
              refine run_gop rfl rfl (by first | exact guard_true _ | exact guard_false _ | exact guard_if (guard_true _) | exact guard_if (guard_false _)) (fun hg => loc_loadOwnN rfl (.there (.here)) (by rfl)) rfl ?_
              refine run_gop rfl rfl (by first | exact guard_true _ | exact guard_false _ | exact guard_if (guard_true _) | exact guard_if (guard_false _)) (fun hg => loc_call (rsameD_spec _ _) rfl) rfl ?_
              refine run_gop rfl rfl (by first | exact guard_true _ | exact guard_false _ | exact guard_if (guard_true _) | exact guard_if (guard_false _)) (fun hg => loc_not rfl) rfl ?_
              refine run_gleave ?_
              refine run_op (loc_or rfl rfl) rfl ?_
              refine run_op (loc_move rfl) rfl ?_
              refine run_gfirst rfl rfl (by first | exact guard_true _ | exact guard_false _ | exact guard_if (guard_true _) | exact guard_if (guard_false _)) (fun hg => loc_loadOwnN rfl (.there (.there (.here))) (by rfl)) rfl ?_
              refine run_gop rfl rfl (by first | exact guard_true _ | exact guard_false _ | exact guard_if (guard_true _) | exact guard_if (guard_false _)) (fun hg => loc_loadOwnN rfl (.here) (by rfl)) rfl ?_
              refine run_gop rfl rfl (by first | exact guard_true _ | exact guard_false _ | exact guard_if (guard_true _) | exact guard_if (guard_false _)) (fun hg => loc_call (tsame_spec _ _) rfl) rfl ?_
              refine run_gop rfl rfl (by first | exact guard_true _ | exact guard_false _ | exact guard_if (guard_true _) | exact guard_if (guard_false _)) (fun hg => loc_not rfl) rfl ?_
              refine run_gleave ?_
              refine run_op (loc_or rfl rfl) rfl ?_
              refine run_nil ?_
              refine run_cond rfl (fun h32 => ?_) (fun h32 => ?_)
              · exfalso; simp at h32
              ·
                refine run_skip ?_
                refine run_inBlock ?_
                refine run_region ?_
                first | refine run_op (loc_add rfl rfl (by first | omega | assumption)) rfl ?_ | refine run_op (loc_addW rfl rfl) rfl ?_
                refine run_op (loc_move rfl) rfl ?_
                refine run_nil ?_
                refine run_drop (.cons _ (.cons _ (.cons _ (.cons _ (.cons _ (.refl _)))))) ?_
                exact run_againC ih24 (i + 1) (by omega) (by omega) (.cons rfl (by first | exact fun _ _ h => h | exact d_int (by omega) | exact d_int (by simp) | exact d_intN (by omega) | exact d_any) .nil) (.cons rfl (fun _ _ x => x) (.cons rfl (fun _ _ x => x) (.cons rfl (fun _ _ x => x) (.cons rfl (fun _ _ x => x) (.cons rfl (fun _ _ x => x) (.cons rfl (fun _ _ x => x) (.cons rfl (fun _ _ x => x) (.cons rfl (fun _ _ x => x) (.cons rfl (fun _ _ x => x) (.cons rfl (fun _ _ x => x) (.cons rfl (fun _ _ x => x) (.cons rfl (fun _ _ x => x) (.nil)))))))))))))
            ·
              refine run_exit rfl ?_
              refine run_seq ?_
              refine run_region ?_
              refine run_op (loc_move rfl) rfl ?_
              refine run_op (loc_move rfl) rfl ?_
              refine run_callM rfl (.here) (pick_spec _ _ _ (by assumption) (by omega)) rfl (fun s33 hs33 => ?_)
              refine run_op (loc_buildSlice rfl rfl (.one rfl (.one rfl (.nil))) rfl rfl) rfl ?_
              refine runL_recast (s := 258) rfl (d_sl (ys := [u, s.2.next.next.val 6]) (h := fI) rfl) ?_
              generalize ([u, s.2.next.next.val 6] : List Int) = us
              first | refine runL_fact (s := 258) rfl (fun _ _ h => dSl_len h) (fun hlen34 => ?_) | skip
              refine run_op (loc_len rfl) rfl ?_
              refine run_op (loc_move rfl) rfl ?_
              refine run_nil ?_
              refine run_block ?_
              refine run_loopC (σ := Nat) (ks := [3, 4, 5, 6, 15, 16, 24, 144, 145, 146, 258, 259]) (.cons rfl (.cons rfl (.cons rfl (.cons rfl (.cons rfl (.cons rfl (.cons rfl (.cons rfl (.cons rfl (.cons rfl (.cons rfl (.cons rfl (.nil))))))))))))) (fun j => [(260, dInt .i64 (j : Nat))]) (fun j => j ≤ us.length) (fun j => us.length - j) (0) ((by omega)) (.cons rfl (by first | exact fun _ _ h => h | exact d_int (by omega) | exact d_int (by simp) | exact d_intN (by omega) | exact d_any) .nil) ?_
              intro j hj ih35
              refine run_seq ?_
              refine run_region ?_
              refine run_op (loc_lss rfl rfl) rfl ?_
              refine run_nil ?_
              refine run_seq ?_
              refine run_cond rfl (fun h36 => ?_) (fun h36 => ?_)
              ·
                refine run_skip ?_
                refine run_seq ?_
                refine run_block ?_
                refine run_seq ?_
                refine run_region ?_
                first | refine run_op (loc_index rfl rfl (by first | omega | assumption)) rfl ?_ | refine run_op (loc_indexI rfl rfl (by first | omega | assumption)) rfl ?_
                refine run_op (loc_load1 rfl) rfl ?_
                refine run_op (loc_assign rfl) rfl ?_
                refine run_nil ?_
                refine run_seq ?_
                refine run_region ?_
                refine run_op (loc_loadN rfl rfl) rfl ?_
                refine run_op (loc_move rfl) rfl ?_
                refine run_op (loc_call (resume_spec _ _) rfl) rfl ?_
                refine run_op (loc_move rfl) rfl ?_
                refine run_op (loc_extract rfl rfl) rfl ?_
                refine run_op (loc_extract rfl rfl) rfl ?_
                refine run_op (loc_extract rfl rfl) rfl ?_
                refine run_new (loc_allocOwn (by simp)) rfl (fun b37 _ => ?_)
                refine run_new (loc_allocOwn (by simp)) rfl (fun b38 _ => ?_)
                refine run_storeN (ho := (by show OneAll [_, _, _, _, _]; infer_instance)) rfl rfl (.there (.here)) (by rfl) ?_
                refine run_storeN (ho := (by show OneAll [_, _]; infer_instance)) rfl rfl (.here) (by rfl) ?_
                refine run_op (loc_assign rfl) rfl ?_
                refine run_nil ?_
                refine run_seq ?_
                refine run_region ?_
                refine run_op (loc_loadN rfl rfl) rfl ?_
                refine run_op (loc_move rfl) rfl ?_
                refine run_op (loc_call (rresume_spec _ _) rfl) rfl ?_
                refine run_op (loc_move rfl) rfl ?_
                refine run_op (loc_extract rfl rfl) rfl ?_
                refine run_op (loc_extract rfl rfl) rfl ?_
                refine run_op (loc_extract rfl rfl) rfl ?_
                refine run_new (loc_allocOwn (by simp)) rfl (fun b39 _ => ?_)
                refine run_new (loc_allocOwn (by simp)) rfl (fun b40 _ => ?_)
                refine run_storeN (ho := (by show OneAll [_, _, _, _, _]; infer_instance)) rfl rfl (.there (.here)) (by rfl) ?_
                refine run_storeN (ho := (by show OneAll [_, _]; infer_instance)) rfl rfl (.here) (by rfl) ?_
                refine run_op (loc_assign rfl) rfl ?_
                refine run_nil ?_
                refine run_seq ?_
                refine run_region ?_
                refine run_op (loc_loadN rfl rfl) rfl ?_
                refine run_op (loc_move rfl) rfl ?_
                refine run_op (loc_call (endD_spec _ _ (by omega)) rfl) rfl ?_
                refine run_op (loc_move rfl) rfl ?_
                refine run_op (loc_extract rfl rfl) rfl ?_
                refine run_op (loc_extract rfl rfl) rfl ?_
                refine run_new (loc_allocOwn (by simp)) rfl (fun b41 _ => ?_)
                refine run_storeN (ho := (by show OneAll [_, _, _]; infer_instance)) rfl rfl (.here) (by rfl) ?_
                refine run_op (loc_assign rfl) rfl ?_
                refine run_nil ?_
                refine run_seq ?_
                refine run_region ?_
                refine run_op (loc_loadN rfl rfl) rfl ?_
                refine run_op (loc_move rfl) rfl ?_
                refine run_op (loc_call (rendD_spec _ _ (by omega)) rfl) rfl ?_
                refine run_op (loc_move rfl) rfl ?_
                refine run_op (loc_extract rfl rfl) rfl ?_
                refine run_op (loc_extract rfl rfl) rfl ?_
                refine run_new (loc_allocOwn (by simp)) rfl (fun b42 _ => ?_)
                refine run_storeN (ho := (by show OneAll [_, _, _]; infer_instance)) rfl rfl (.here) (by rfl) ?_
                refine run_op (loc_assign rfl) rfl ?_
                refine run_nil ?_
                refine run_seq ?_
                refine run_region ?_
                refine run_op (loc_loadOwnN rfl (.there (.there (.there (.there (.there (.here)))))) (by rfl)) rfl ?_
                refine run_op (loc_loadOwnN rfl (.there (.there (.there (.here)))) (by rfl)) rfl ?_
                refine run_op (loc_neqI rfl rfl (.cons (.cons (.cons (.cons (.cons (.nil)))))) rfl) rfl ?_
                refine run_op (loc_move rfl) rfl ?_
                refine run_gfirst rfl rfl (by first | exact guard_true _ | exact guard_false _ | exact guard_if (guard_true _) | exact guard_if (guard_false _)) (fun hg => loc_move rfl) rfl ?_
                refine run_gop rfl rfl (by first | exact guard_true _ | exact guard_false _ | exact guard_if (guard_true _) | exact guard_if (guard_false _)) (fun hg => loc_move rfl) rfl ?_
                refine run_gop rfl rfl (by first | exact guard_true _ | exact guard_false _ | exact guard_if (guard_true _) | exact guard_if (guard_false _)) (fun hg => loc_neq rfl rfl) rfl ?_
                refine run_gleave ?_
                refine run_op (loc_or rfl rfl) rfl ?_
                refine run_op (loc_move rfl) rfl ?_
                refine run_gfirst rfl rfl (by first | exact guard_true _ | exact guard_false _ | exact guard_if (guard_true _) | exact guard_if (guard_false _)) (fun hg => loc_move rfl) rfl ?_
                refine run_gop rfl rfl (by first | exact guard_true _ | exact guard_false _ | exact guard_if (guard_true _) | exact guard_if (guard_false _)) (fun hg => loc_move rfl) rfl ?_
                refine run_gop rfl rfl (by first | exact guard_true _ | exact guard_false _ | exact guard_if (guard_true _) | exact guard_if (guard_false _)) (fun hg => loc_neq rfl rfl) rfl ?_
                refine run_gleave ?_
                refine run_op (loc_or rfl rfl) rfl ?_
                refine run_op (loc_move rfl) rfl ?_
                refine run_gfirst rfl rfl (by first | exact guard_true _ | exact guard_false _ | exact guard_if (guard_true _) | exact guard_if (guard_false _)) (fun hg => loc_loadOwnN rfl (.there (.there (.there (.there (.here))))) (by rfl)) rfl ?_
                refine run_gop rfl rfl (by first | exact guard_true _ | exact guard_false _ | exact guard_if (guard_true _) | exact guard_if (guard_false _)) (fun hg => loc_loadOwnN rfl (.there (.there (.here))) (by rfl)) rfl ?_
                refine run_gop rfl rfl (by first | exact guard_true _ | exact guard_false _ | exact guard_if (guard_true _) | exact guard_if (guard_false _)) (fun hg => loc_call (tsame_spec _ _) rfl) rfl ?_
                refine run_gop rfl rfl (by first | exact guard_true _ | exact guard_false _ | exact guard_if (guard_true _) | exact guard_if (guard_false _)) (fun hg => loc_not rfl) rfl ?_
                refine run_gleave ?_
                refine run_op (loc_or rfl rfl) rfl ?_
                refine run_op (loc_move rfl) rfl ?_
                refine run_gfirst rfl rfl (by first | exact guard_true _ | exact guard_false _ | exact guard_if (guard_true _) | exact guard_if (guard_false _)) (fun hg => loc_loadOwnN rfl (.there (.here)) (by rfl)) rfl ?_
                refine run_gop rfl rfl (by first | exact guard_true _ | exact guard_false _ | exact guard_if (guard_true _) | exact guard_if (guard_false _)) (fun hg => loc_loadOwnN rfl (.here) (by rfl)) rfl ?_
                refine run_gop rfl rfl (by first | exact guard_true _ | exact guard_false _ | exact guard_if (guard_true _) | exact guard_if (guard_false _)) (fun hg => loc_call (rsameD_spec _ _) rfl) rfl ?_
                refine run_gop rfl rfl (by first | exact guard_true _ | exact guard_false _ | exact guard_if (guard_true _) | exact guard_if (guard_false _)) (fun hg => loc_not rfl) rfl ?_
                refine run_gleave ?_
                refine run_op (loc_or rfl rfl) rfl ?_
                refine run_nil ?_
                refine run_cond rfl (fun h43 => ?_) (fun h43 => ?_)
                · exfalso; simp at h43
                ·
                  refine run_skip ?_
                  refine run_inBlock ?_
                  refine run_region ?_
                  first | refine run_op (loc_add rfl rfl (by first | omega | assumption)) rfl ?_ | refine run_op (loc_addW rfl rfl) rfl ?_
                  refine run_op (loc_move rfl) rfl ?_
                  refine run_nil ?_
                  refine run_drop (.cons _ (.cons _ (.cons _ (.cons _ (.cons _ (.cons _ (.refl _))))))) ?_
                  exact run_againC ih35 (j + 1) (by omega) (by omega) (.cons rfl (by first | exact fun _ _ h => h | exact d_int (by omega) | exact d_int (by simp) | exact d_intN (by omega) | exact d_any) .nil) (.cons rfl (fun _ _ x => x) (.cons rfl (fun _ _ x => x) (.cons rfl (fun _ _ x => x) (.cons rfl (fun _ _ x => x) (.cons rfl (fun _ _ x => x) (.cons rfl (fun _ _ x => x) (.cons rfl (fun _ _ x => x) (.cons rfl (fun _ _ x => x) (.cons rfl (fun _ _ x => x) (.cons rfl (fun _ _ x => x) (.cons rfl (fun _ _ x => x) (.cons rfl (fun _ _ x => x) (.nil)))))))))))))
              ·
                refine run_exit rfl ?_
                refine run_inBlock ?_
                refine run_region ?_
                first | refine run_op (loc_add rfl rfl (by first | omega | assumption)) rfl ?_ | refine run_op (loc_addW rfl rfl) rfl ?_
                refine run_op (loc_move rfl) rfl ?_
                refine run_nil ?_
                exact run_againF ih20 ((s.1 + 1, s.2.next.next.next)) (⟨by simp only; omega, hds3⟩) (by simp only; omega) (.cons rfl (by first | exact fun _ _ h => h | exact d_int (by omega) | exact d_int (by simp) | exact d_intN (by omega) | exact d_any) .nil) (.cons rfl (fun _ _ x => x) (.cons rfl (fun _ _ x => x) (.cons rfl (fun _ _ x => x) (.cons rfl (fun _ _ x => x) (.cons rfl (fun _ _ x => x) (.cons rfl (fun _ _ x => x) (.cons rfl (fun _ _ x => x) (.cons rfl (fun _ _ x => x) (.nil))))))))) (rfl)
        ·
          refine run_exit rfl ?_
          refine run_seq ?_
          refine run_region ?_
          refine run_op (loc_assign rfl) rfl ?_
          refine run_nil ?_
          refine run_drop (.cons _ (.cons _ (.cons _ (.cons _ (.cons _ (.refl _)))))) ?_
          refine run_retP Try.func12 rfl rfl ?_
          exact d_B ⟨fun _ => trivial, fun _ => trivial⟩

end Go.Q
