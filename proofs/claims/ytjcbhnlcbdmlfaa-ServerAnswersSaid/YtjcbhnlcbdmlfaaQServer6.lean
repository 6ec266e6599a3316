/- Contracts of equal servers in the reference. -/
import Derived.Test.YtjcbhnlcbdmlfaaQServer3
import Derived.Test.YtjcbhnlcbdmlfaaQServer
import Derived.Test.YtjcbhnlcbdmlfaaQLaw30S
set_option linter.unusedVariables false
set_option linter.unusedSimpArgs false
namespace Go.Q
open Go.Proofs

open Classical
theorem ints30_spec (xs ys : List Int) : SpecP Try.prog 23 [dInts xs, dInts ys] (dB (xs = ys)) := by
  refine specP_of_body Try.func23 rfl rfl (fun I M => ?_)
  refine run_seq ?_
  refine run_region ?_
  refine run_op (loc_assign rfl) rfl ?_
  refine run_nil ?_
  refine run_seq ?_
  refine run_seq ?_
  refine run_region ?_
  refine run_op (loc_move rfl) rfl ?_
  first | refine runL_fact (s := 6) rfl (fun _ _ h => dSl_len h) (fun hlen1 => ?_) | skip
  refine run_op (loc_len rfl) rfl ?_
  refine run_op (loc_move rfl) rfl ?_
  first | refine runL_fact (s := 8) rfl (fun _ _ h => dSl_len h) (fun hlen2 => ?_) | skip
  refine run_op (loc_len rfl) rfl ?_
  refine run_op (loc_neq rfl rfl) rfl ?_
  refine run_nil ?_
  refine run_cond rfl (fun h3 => ?_) (fun h3 => ?_)
  ·
    refine run_seq ?_
    refine run_region ?_
    refine run_op (loc_assign rfl) rfl ?_
    refine run_nil ?_
    refine run_retP Try.func23 rfl rfl ?_
    exact d_B ⟨False.elim, fun h => by subst h; omega⟩
  ·
    refine run_skip ?_
    refine run_seq ?_
    refine run_seq ?_
    refine run_region ?_
    refine run_op (loc_assign rfl) rfl ?_
    refine run_nil ?_
    refine run_block ?_
    refine run_loopC (σ := Nat) (ks := [0, 1]) (.cons rfl (.cons rfl (.nil))) (fun k => [(5, dInt .i64 (k : Nat))]) (fun k => k ≤ xs.length ∧ (∀ j, j < k → xs[j]?.getD default = ys[j]?.getD default)) (fun k => xs.length - k) (0) (⟨by omega, fun j hj => by omega⟩) (.cons rfl (by first | exact fun _ _ h => h | exact d_int (by omega) | exact d_int (by simp) | exact d_intN (by omega) | exact d_any) .nil) ?_
    rintro k ⟨hk, hbk⟩ ih4
    refine run_seq ?_
    refine run_seq ?_
    refine run_region ?_
    refine run_op (loc_move rfl) rfl ?_
    refine run_op (loc_move rfl) rfl ?_
    first | refine runL_fact (s := 12) rfl (fun _ _ h => dSl_len h) (fun hlen5 => ?_) | skip
    refine run_op (loc_len rfl) rfl ?_
    refine run_op (loc_lss rfl rfl) rfl ?_
    refine run_nil ?_
    refine run_cond rfl (fun h6 => ?_) (fun h6 => ?_)
    ·
      refine run_skip ?_
      refine run_seq ?_
      refine run_block ?_
      refine run_seq ?_
      refine dr_start _ (.none) [⟨[(0, none)], [], none⟩,
          ⟨[(5, none)], [], none⟩,
          ⟨[(17, some (0, false)), (18, some (1, false))], [0, 1], none⟩,
          ⟨[(19, some (2, false))], [0, 1, 2], none⟩,
          ⟨[(1, none)], [], none⟩,
          ⟨[(5, none)], [], none⟩,
          ⟨[(21, some (4, false)), (22, some (5, false))], [4, 5], none⟩,
          ⟨[(23, some (6, false))], [4, 5, 6], none⟩,
          ⟨[(20, some (3, false)), (24, some (7, false))], [0, 1, 2, 3, 4, 5, 6, 7], none⟩] [] _ rfl rfl ?_
      refine dq_pure rfl (fun s => .g rfl (.nil)) (fun s hs _ => loc_move rfl) (by exact .nil) ?_
      refine dq_pure rfl (fun s => .g rfl (.nil)) (fun s hs _ => loc_move rfl) (by exact .nil) ?_
      first | refine dq_pure rfl (fun s => .op rfl (.op rfl (.nil))) (fun s hs _ => loc_index rfl rfl (by first | omega | assumption)) (by exact .nil) ?_ | refine dq_pure rfl (fun s => .op rfl (.op rfl (.nil))) (fun s hs _ => loc_indexI rfl rfl (by first | omega | assumption)) (by exact .nil) ?_
      refine dq_pure rfl (fun s => .op rfl (.nil)) (fun s hs _ => loc_load1 rfl) (by exact .nil) ?_
      refine dq_pure rfl (fun s => .g rfl (.nil)) (fun s hs _ => loc_move rfl) (by exact .nil) ?_
      refine dq_pure rfl (fun s => .g rfl (.nil)) (fun s hs _ => loc_move rfl) (by exact .nil) ?_
      first | refine dq_pure rfl (fun s => .op rfl (.op rfl (.nil))) (fun s hs _ => loc_index rfl rfl (by first | omega | assumption)) (by exact .nil) ?_ | refine dq_pure rfl (fun s => .op rfl (.op rfl (.nil))) (fun s hs _ => loc_indexI rfl rfl (by first | omega | assumption)) (by exact .nil) ?_
      refine dq_pure rfl (fun s => .op rfl (.nil)) (fun s hs _ => loc_load1 rfl) (by exact .nil) ?_
      refine dq_pure rfl (fun s => .op rfl (.op rfl (.nil))) (fun s hs _ => loc_neq rfl rfl) (by exact .nil) ?_
      refine dq_end (rs := []) () rfl (fun _ => rfl) (.nil) rfl (fun _ _ => ?_)
      dsimp only [outG, outM, List.map, List.set, id]
      refine run_cond rfl (fun h7 => ?_) (fun h7 => ?_)
      ·
        refine run_seq ?_
        refine run_region ?_
        refine run_op (loc_assign rfl) rfl ?_
        refine run_nil ?_
        refine run_retP Try.func23 rfl rfl ?_
        exact d_B ⟨False.elim, fun h => by subst h; contradiction⟩
      ·
        refine run_skip ?_
        refine run_inBlock ?_
        refine run_region ?_
        refine run_op (loc_move rfl) rfl ?_
        first | refine run_op (loc_add rfl rfl (by first | omega | assumption)) rfl ?_ | refine run_op (loc_addW rfl rfl) rfl ?_
        refine run_op (loc_assign rfl) rfl ?_
        refine run_nil ?_
        exact run_againC ih4 (k + 1) (⟨by omega, fun j hj => by by_cases e : j = k; (· subst e; exact Classical.not_not.1 (by assumption)); (· exact hbk j (by omega))⟩) (by omega) (.cons rfl (by first | exact fun _ _ h => h | exact d_int (by omega) | exact d_int (by simp) | exact d_intN (by omega) | exact d_any) .nil) (.cons rfl (fun _ _ x => x) (.cons rfl (fun _ _ x => x) (.nil)))
    ·
      refine run_exit rfl ?_
      refine run_seq ?_
      refine run_region ?_
      refine run_op (loc_assign rfl) rfl ?_
      refine run_nil ?_
      refine run_retP Try.func23 rfl rfl ?_
      exact d_B ⟨fun _ => list_extD (by omega) (fun j hj => hbk j (by omega)), fun _ => trivial⟩

theorem rows30_spec (xs ys : List (List Int)) : SpecP Try.prog 70 [dRows xs, dRows ys] (dB (xs = ys)) := by
  refine specP_of_body Try.func70 rfl rfl (fun I M => ?_)
  refine run_seq ?_
  refine run_region ?_
  refine run_op (loc_assign rfl) rfl ?_
  refine run_nil ?_
  refine run_seq ?_
  refine run_seq ?_
  refine run_region ?_
  refine run_op (loc_move rfl) rfl ?_
  first | refine runL_fact (s := 6) rfl (fun _ _ h => dSl_len h) (fun hlen1 => ?_) | skip
  refine run_op (loc_len rfl) rfl ?_
  refine run_op (loc_move rfl) rfl ?_
  first | refine runL_fact (s := 8) rfl (fun _ _ h => dSl_len h) (fun hlen2 => ?_) | skip
  refine run_op (loc_len rfl) rfl ?_
  refine run_op (loc_neq rfl rfl) rfl ?_
  refine run_nil ?_
  refine run_cond rfl (fun h3 => ?_) (fun h3 => ?_)
  ·
    refine run_seq ?_
    refine run_region ?_
    refine run_op (loc_assign rfl) rfl ?_
    refine run_nil ?_
    refine run_retP Try.func70 rfl rfl ?_
    exact d_B ⟨False.elim, fun h => by subst h; omega⟩
  ·
    refine run_skip ?_
    refine run_seq ?_
    refine run_seq ?_
    refine run_region ?_
    refine run_op (loc_assign rfl) rfl ?_
    refine run_nil ?_
    refine run_block ?_
    refine run_loopC (σ := Nat) (ks := [0, 1]) (.cons rfl (.cons rfl (.nil))) (fun k => [(5, dInt .i64 (k : Nat))]) (fun k => k ≤ xs.length ∧ (∀ j, j < k → xs[j]?.getD default = ys[j]?.getD default)) (fun k => xs.length - k) (0) (⟨by omega, fun j hj => by omega⟩) (.cons rfl (by first | exact fun _ _ h => h | exact d_int (by omega) | exact d_int (by simp) | exact d_intN (by omega) | exact d_any) .nil) ?_
    rintro k ⟨hk, hbk⟩ ih4
    refine run_seq ?_
    refine run_seq ?_
    refine run_region ?_
    refine run_op (loc_move rfl) rfl ?_
    refine run_op (loc_move rfl) rfl ?_
    first | refine runL_fact (s := 12) rfl (fun _ _ h => dSl_len h) (fun hlen5 => ?_) | skip
    refine run_op (loc_len rfl) rfl ?_
    refine run_op (loc_lss rfl rfl) rfl ?_
    refine run_nil ?_
    refine run_cond rfl (fun h6 => ?_) (fun h6 => ?_)
    ·
      refine run_skip ?_
      refine run_seq ?_
      refine run_block ?_
      refine run_seq ?_
      refine dr_start _ (.none) [⟨[(0, none)], [], none⟩,
          ⟨[(5, none)], [], none⟩,
          ⟨[(17, some (0, false)), (18, some (1, false))], [0, 1], none⟩,
          ⟨[(19, some (2, false))], [0, 1, 2], none⟩,
          ⟨[(1, none)], [], none⟩,
          ⟨[(5, none)], [], none⟩,
          ⟨[(21, some (4, false)), (22, some (5, false))], [4, 5], none⟩,
          ⟨[(23, some (6, false))], [4, 5, 6], none⟩,
          ⟨[(20, some (3, false)), (24, some (7, false))], [0, 1, 2, 3, 4, 5, 6, 7], none⟩,
          ⟨[(25, some (8, false))], [0, 1, 2, 3, 4, 5, 6, 7, 8], none⟩] [] _ rfl rfl ?_
      refine dq_pure rfl (fun s => .g rfl (.nil)) (fun s hs _ => loc_move rfl) (by exact .nil) ?_
      refine dq_pure rfl (fun s => .g rfl (.nil)) (fun s hs _ => loc_move rfl) (by exact .nil) ?_
      first | refine dq_pure rfl (fun s => .op rfl (.op rfl (.nil))) (fun s hs _ => loc_index rfl rfl (by first | omega | assumption)) (by exact .nil) ?_ | refine dq_pure rfl (fun s => .op rfl (.op rfl (.nil))) (fun s hs _ => loc_indexI rfl rfl (by first | omega | assumption)) (by exact .nil) ?_
      refine dq_pure rfl (fun s => .op rfl (.nil)) (fun s hs _ => loc_load1 rfl) (by exact .nil) ?_
      refine dq_pure rfl (fun s => .g rfl (.nil)) (fun s hs _ => loc_move rfl) (by exact .nil) ?_
      refine dq_pure rfl (fun s => .g rfl (.nil)) (fun s hs _ => loc_move rfl) (by exact .nil) ?_
      first | refine dq_pure rfl (fun s => .op rfl (.op rfl (.nil))) (fun s hs _ => loc_index rfl rfl (by first | omega | assumption)) (by exact .nil) ?_ | refine dq_pure rfl (fun s => .op rfl (.op rfl (.nil))) (fun s hs _ => loc_indexI rfl rfl (by first | omega | assumption)) (by exact .nil) ?_
      refine dq_pure rfl (fun s => .op rfl (.nil)) (fun s hs _ => loc_load1 rfl) (by exact .nil) ?_
      refine dq_pure rfl (fun s => .op rfl (.op rfl (.nil))) (fun s hs _ => loc_call (ints30_spec _ _) rfl) (by exact .nil) ?_
      refine dq_pure rfl (fun s => .op rfl (.nil)) (fun s hs _ => loc_not rfl) (by exact .nil) ?_
      refine dq_end (rs := []) () rfl (fun _ => rfl) (.nil) rfl (fun _ _ => ?_)
      dsimp only [outG, outM, List.map, List.set, id]
      refine run_cond rfl (fun h7 => ?_) (fun h7 => ?_)
      ·
        refine run_seq ?_
        refine run_region ?_
        refine run_op (loc_assign rfl) rfl ?_
        refine run_nil ?_
        refine run_retP Try.func70 rfl rfl ?_
        exact d_B ⟨False.elim, fun h => by subst h; contradiction⟩
      ·
        refine run_skip ?_
        refine run_inBlock ?_
        refine run_region ?_
        refine run_op (loc_move rfl) rfl ?_
        first | refine run_op (loc_add rfl rfl (by first | omega | assumption)) rfl ?_ | refine run_op (loc_addW rfl rfl) rfl ?_
        refine run_op (loc_assign rfl) rfl ?_
        refine run_nil ?_
        exact run_againC ih4 (k + 1) (⟨by omega, fun j hj => by by_cases e : j = k; (· subst e; exact Classical.not_not.1 (by assumption)); (· exact hbk j (by omega))⟩) (by omega) (.cons rfl (by first | exact fun _ _ h => h | exact d_int (by omega) | exact d_int (by simp) | exact d_intN (by omega) | exact d_any) .nil) (.cons rfl (fun _ _ x => x) (.cons rfl (fun _ _ x => x) (.nil)))
    ·
      refine run_exit rfl ?_
      refine run_seq ?_
      refine run_region ?_
      refine run_op (loc_assign rfl) rfl ?_
      refine run_nil ?_
      refine run_retP Try.func70 rfl rfl ?_
      exact d_B ⟨fun _ => list_extD (by omega) (fun j hj => hbk j (by omega)), fun _ => trivial⟩

theorem sameRs30_spec (xs ys : List (List Int)) : SpecP Try.prog 39 [dRows xs, dRows ys] (dB (xs = ys)) := by
  refine specP_of_body Try.func39 rfl rfl (fun I M => ?_)
  refine run_seq ?_
  refine run_region ?_
  refine run_op (loc_assign rfl) rfl ?_
  refine run_nil ?_
  refine run_seq ?_
  refine run_region ?_
  refine run_op (loc_move rfl) rfl ?_
  refine run_op (loc_move rfl) rfl ?_
  refine run_op (loc_call (rows30_spec _ _) rfl) rfl ?_
  refine run_op (loc_assign rfl) rfl ?_
  refine run_nil ?_
  refine run_retP Try.func39 rfl rfl ?_
  exact fun _ _ h => h

theorem Hd.ext' {a b : Hd} (h1 : a.number = b.number) (h2 : a.p = b.p) (h3 : a.count = b.count) (h4 : a.width = b.width) (h5 : a.root = b.root) : a = b := by cases a; cases b; simp_all
theorem Held.ext' {a b : Held} (h1 : a.head = b.head) (h2 : a.rows = b.rows) : a = b := by cases a; cases b; simp_all
theorem Job.ext' {a b : Job} (h1 : a.read = b.read) (h2 : a.probe = b.probe) (h3 : a.version = b.version) (h4 : a.query = b.query) (h5 : a.got = b.got) : a = b := by cases a; cases b; simp_all
theorem Schm.ext' {a b : Schm} (h1 : a.kind = b.kind) (h2 : a.servers = b.servers) (h3 : a.degree = b.degree) (h4 : a.group = b.group) : a = b := by cases a; cases b; simp_all
theorem Srv.ext' {a b : Srv} (h1 : a.id = b.id) (h2 : a.scheme = b.scheme) (h3 : a.up ↔ b.up) (h4 : a.versions = b.versions) (h5 : a.jobs = b.jobs) : a = b := by
  cases a; cases b
  simp only at h1 h2 h3 h4 h5
  have h6 := propext h3
  subst h1 h2 h4 h5 h6; rfl
theorem vsame_spec (a b : Srv) : SpecP Try.prog 17 [dSrv a, dSrv b] (dB (a = b)) := by
  refine specP_of_body Try.func17 rfl rfl (fun I M => ?_)
  refine run_seq ?_
  refine run_region ?_
  refine run_op (loc_boxN rfl) rfl ?_
  refine run_op (loc_boxN rfl) rfl ?_
  refine run_op (loc_assign rfl) rfl ?_
  refine run_nil ?_
  refine run_seq ?_
  refine run_seq ?_
  refine run_region ?_
  refine run_op (loc_fieldAddr rfl) rfl ?_
  refine run_op (loc_load1 rfl) rfl ?_
  refine run_op (loc_fieldAddr rfl) rfl ?_
  refine run_op (loc_load1 rfl) rfl ?_
  refine run_op (loc_neq rfl rfl) rfl ?_
  refine run_op (loc_move rfl) rfl ?_
  refine run_gfirst rfl rfl (by first | exact guard_true _ | exact guard_false _ | exact guard_if (guard_true _) | exact guard_if (guard_false _)) (fun hg => loc_fieldAddr rfl) rfl ?_
  refine run_gop rfl rfl (by first | exact guard_true _ | exact guard_false _ | exact guard_if (guard_true _) | exact guard_if (guard_false _)) (fun hg => loc_loadN rfl rfl) rfl ?_
  refine run_gop rfl rfl (by first | exact guard_true _ | exact guard_false _ | exact guard_if (guard_true _) | exact guard_if (guard_false _)) (fun hg => loc_fieldAddr rfl) rfl ?_
  refine run_gop rfl rfl (by first | exact guard_true _ | exact guard_false _ | exact guard_if (guard_true _) | exact guard_if (guard_false _)) (fun hg => loc_loadN rfl rfl) rfl ?_
  refine run_gop rfl rfl (by first | exact guard_true _ | exact guard_false _ | exact guard_if (guard_true _) | exact guard_if (guard_false _)) (fun hg => loc_neqI rfl rfl (.cons (.cons (.cons (.cons (.nil))))) rfl) rfl ?_
  refine run_gleave ?_
  refine run_op (loc_or rfl rfl) rfl ?_
  refine run_op (loc_move rfl) rfl ?_
  refine run_gfirst rfl rfl (by first | exact guard_true _ | exact guard_false _ | exact guard_if (guard_true _) | exact guard_if (guard_false _)) (fun hg => loc_fieldAddr rfl) rfl ?_
  refine run_gop rfl rfl (by first | exact guard_true _ | exact guard_false _ | exact guard_if (guard_true _) | exact guard_if (guard_false _)) (fun hg => loc_load1 rfl) rfl ?_
  refine run_gop rfl rfl (by first | exact guard_true _ | exact guard_false _ | exact guard_if (guard_true _) | exact guard_if (guard_false _)) (fun hg => loc_fieldAddr rfl) rfl ?_
  refine run_gop rfl rfl (by first | exact guard_true _ | exact guard_false _ | exact guard_if (guard_true _) | exact guard_if (guard_false _)) (fun hg => loc_load1 rfl) rfl ?_
  refine run_gop rfl rfl (by first | exact guard_true _ | exact guard_false _ | exact guard_if (guard_true _) | exact guard_if (guard_false _)) (fun hg => loc_neqB rfl rfl) rfl ?_
  refine run_gleave ?_
  refine run_op (loc_or rfl rfl) rfl ?_
  refine run_op (loc_move rfl) rfl ?_
  refine run_gfirst rfl rfl (by first | exact guard_true _ | exact guard_false _ | exact guard_if (guard_true _) | exact guard_if (guard_false _)) (fun hg => loc_fieldAddr rfl) rfl ?_
  refine run_gop rfl rfl (by first | exact guard_true _ | exact guard_false _ | exact guard_if (guard_true _) | exact guard_if (guard_false _)) (fun hg => loc_load1 rfl) rfl ?_
  refine run_gop rfl rfl (by first | exact guard_true _ | exact guard_false _ | exact guard_if (guard_true _) | exact guard_if (guard_false _)) (fun hg => loc_len rfl) rfl ?_
  refine run_gop rfl rfl (by first | exact guard_true _ | exact guard_false _ | exact guard_if (guard_true _) | exact guard_if (guard_false _)) (fun hg => loc_fieldAddr rfl) rfl ?_
  refine run_gop rfl rfl (by first | exact guard_true _ | exact guard_false _ | exact guard_if (guard_true _) | exact guard_if (guard_false _)) (fun hg => loc_load1 rfl) rfl ?_
  refine run_gop rfl rfl (by first | exact guard_true _ | exact guard_false _ | exact guard_if (guard_true _) | exact guard_if (guard_false _)) (fun hg => loc_len rfl) rfl ?_
  refine run_gop rfl rfl (by first | exact guard_true _ | exact guard_false _ | exact guard_if (guard_true _) | exact guard_if (guard_false _)) (fun hg => loc_neq rfl rfl) rfl ?_
  refine run_gleave ?_
  refine run_op (loc_or rfl rfl) rfl ?_
  refine run_op (loc_move rfl) rfl ?_
  refine run_gfirst rfl rfl (by first | exact guard_true _ | exact guard_false _ | exact guard_if (guard_true _) | exact guard_if (guard_false _)) (fun hg => loc_fieldAddr rfl) rfl ?_
  refine run_gop rfl rfl (by first | exact guard_true _ | exact guard_false _ | exact guard_if (guard_true _) | exact guard_if (guard_false _)) (fun hg => loc_load1 rfl) rfl ?_
  refine run_gop rfl rfl (by first | exact guard_true _ | exact guard_false _ | exact guard_if (guard_true _) | exact guard_if (guard_false _)) (fun hg => loc_len rfl) rfl ?_
  refine run_gop rfl rfl (by first | exact guard_true _ | exact guard_false _ | exact guard_if (guard_true _) | exact guard_if (guard_false _)) (fun hg => loc_fieldAddr rfl) rfl ?_
  refine run_gop rfl rfl (by first | exact guard_true _ | exact guard_false _ | exact guard_if (guard_true _) | exact guard_if (guard_false _)) (fun hg => loc_load1 rfl) rfl ?_
  refine run_gop rfl rfl (by first | exact guard_true _ | exact guard_false _ | exact guard_if (guard_true _) | exact guard_if (guard_false _)) (fun hg => loc_len rfl) rfl ?_
  refine run_gop rfl rfl (by first | exact guard_true _ | exact guard_false _ | exact guard_if (guard_true _) | exact guard_if (guard_false _)) (fun hg => loc_neq rfl rfl) rfl ?_
  refine run_gleave ?_
  refine run_op (loc_or rfl rfl) rfl ?_
  refine run_nil ?_
  refine run_cond rfl (fun h1 => ?_) (fun h1 => ?_)
  ·
    have h9 := h1
    refine run_seq ?_
    refine run_region ?_
    refine run_op (loc_assign rfl) rfl ?_
    refine run_nil ?_
    refine run_retP Try.func17 rfl rfl ?_
    exact d_B ⟨False.elim, fun h => by subst h; simp at h9⟩
  ·
    have h9 := h1
    simp only [not_or, ne_eq, Classical.not_not, List.cons.injEq, and_true] at h9
    refine run_skip ?_
    refine run_seq ?_
    refine run_seq ?_
    refine run_region ?_
    refine run_op (loc_assign rfl) rfl ?_
    refine run_nil ?_
    refine run_block ?_
    refine run_loopC (σ := Nat) (ks := [2, 3]) (.cons rfl (.cons rfl (.nil))) (fun k => [(5, dInt .i64 (k : Nat))]) (fun k => k ≤ a.versions.length ∧ (∀ j, j < k → a.versions[j]?.getD default = b.versions[j]?.getD default)) (fun k => a.versions.length - k) (0) (⟨by omega, fun j hj => by omega⟩) (.cons rfl (by first | exact fun _ _ h => h | exact d_int (by omega) | exact d_int (by simp) | exact d_intN (by omega) | exact d_any) .nil) ?_
    rintro k ⟨hk, hbk⟩ ih2
    refine run_seq ?_
    refine run_seq ?_
    refine run_region ?_
    refine run_op (loc_move rfl) rfl ?_
    refine run_op (loc_fieldAddr rfl) rfl ?_
    refine run_op (loc_load1 rfl) rfl ?_
    first | refine runL_fact (s := 48) rfl (fun _ _ h => dSl_len h) (fun hlen3 => ?_) | skip
    refine run_op (loc_len rfl) rfl ?_
    refine run_op (loc_lss rfl rfl) rfl ?_
    refine run_nil ?_
    refine run_cond rfl (fun h4 => ?_) (fun h4 => ?_)
    ·
      refine run_skip ?_
      refine run_seq ?_
      refine run_block ?_
      refine run_seq ?_
      refine dr_start _ (.none) [⟨[(2, none)], [], none⟩,
          ⟨[(53, some (0, false))], [0], none⟩,
          ⟨[(5, none)], [], none⟩,
          ⟨[(54, some (1, false)), (55, some (2, false))], [0, 1, 2], none⟩,
          ⟨[(56, some (3, false))], [0, 1, 2, 3], none⟩,
          ⟨[(57, some (4, false))], [0, 1, 2, 3, 4], none⟩,
          ⟨[(3, none)], [], none⟩,
          ⟨[(59, some (6, false))], [6], none⟩,
          ⟨[(5, none)], [], none⟩,
          ⟨[(60, some (7, false)), (61, some (8, false))], [6, 7, 8], none⟩,
          ⟨[(62, some (9, false))], [6, 7, 8, 9], none⟩,
          ⟨[(63, some (10, false))], [6, 7, 8, 9, 10], none⟩,
          ⟨[(58, some (5, false)), (64, some (11, false))], [0, 1, 2, 3, 4, 5, 6, 7, 8, 9, 10, 11], none⟩,
          ⟨[(65, some (12, false))], [0, 1, 2, 3, 4, 5, 6, 7, 8, 9, 10, 11, 12], none⟩,
          ⟨[(2, none)], [0, 1, 2, 3, 4, 5, 6, 7, 8, 9, 10, 11, 12, 13], none⟩,
          ⟨[(67, some (14, true))], [0, 1, 2, 3, 4, 5, 6, 7, 8, 9, 10, 11, 12, 13, 14], none⟩,
          ⟨[(5, none)], [0, 1, 2, 3, 4, 5, 6, 7, 8, 9, 10, 11, 12, 13], none⟩,
          ⟨[(68, some (15, true)), (69, some (16, true))], [0, 1, 2, 3, 4, 5, 6, 7, 8, 9, 10, 11, 12, 13, 14, 15, 16], none⟩,
          ⟨[(70, some (17, true))], [0, 1, 2, 3, 4, 5, 6, 7, 8, 9, 10, 11, 12, 13, 14, 15, 16, 17], none⟩,
          ⟨[(71, some (18, true))], [0, 1, 2, 3, 4, 5, 6, 7, 8, 9, 10, 11, 12, 13, 14, 15, 16, 17, 18], none⟩,
          ⟨[(3, none)], [0, 1, 2, 3, 4, 5, 6, 7, 8, 9, 10, 11, 12, 13], none⟩,
          ⟨[(73, some (20, true))], [0, 1, 2, 3, 4, 5, 6, 7, 8, 9, 10, 11, 12, 13, 20], none⟩,
          ⟨[(5, none)], [0, 1, 2, 3, 4, 5, 6, 7, 8, 9, 10, 11, 12, 13], none⟩,
          ⟨[(74, some (21, true)), (75, some (22, true))], [0, 1, 2, 3, 4, 5, 6, 7, 8, 9, 10, 11, 12, 13, 20, 21, 22], none⟩,
          ⟨[(76, some (23, true))], [0, 1, 2, 3, 4, 5, 6, 7, 8, 9, 10, 11, 12, 13, 20, 21, 22, 23], none⟩,
          ⟨[(77, some (24, true))], [0, 1, 2, 3, 4, 5, 6, 7, 8, 9, 10, 11, 12, 13, 20, 21, 22, 23, 24], none⟩,
          ⟨[(72, some (19, true)), (78, some (25, true))], [0, 1, 2, 3, 4, 5, 6, 7, 8, 9, 10, 11, 12, 13, 14, 15, 16, 17, 18, 19, 20, 21, 22, 23, 24, 25], none⟩,
          ⟨[(79, some (26, true))], [0, 1, 2, 3, 4, 5, 6, 7, 8, 9, 10, 11, 12, 13, 14, 15, 16, 17, 18, 19, 20, 21, 22, 23, 24, 25, 26], none⟩,
          ⟨[(66, some (13, false)), (80, some (27, false))], [0, 1, 2, 3, 4, 5, 6, 7, 8, 9, 10, 11, 12, 13, 14, 15, 16, 17, 18, 19, 20, 21, 22, 23, 24, 25, 26, 27], none⟩] [] _ rfl rfl ?_
      refine dq_pure rfl (fun s => .g rfl (.nil)) (fun s hs _ => loc_fieldAddr rfl) (by exact .nil) ?_
      refine dq_pure rfl (fun s => .op rfl (.nil)) (fun s hs _ => loc_load1 rfl) (by exact .nil) ?_
      refine dq_pure rfl (fun s => .g rfl (.nil)) (fun s hs _ => loc_move rfl) (by exact .nil) ?_
      first | refine dq_pure rfl (fun s => .op rfl (.op rfl (.nil))) (fun s hs _ => loc_index rfl rfl (by first | omega | assumption)) (by exact .nil) ?_ | refine dq_pure rfl (fun s => .op rfl (.op rfl (.nil))) (fun s hs _ => loc_indexI rfl rfl (by first | omega | assumption)) (by exact .nil) ?_
      refine dq_pure rfl (fun s => .op rfl (.nil)) (fun s hs _ => loc_fieldAddr rfl) (by exact .nil) ?_
      refine dq_pure rfl (fun s => .op rfl (.nil)) (fun s hs _ => loc_loadN rfl rfl) (by exact .nil) ?_
      refine dq_pure rfl (fun s => .g rfl (.nil)) (fun s hs _ => loc_fieldAddr rfl) (by exact .nil) ?_
      refine dq_pure rfl (fun s => .op rfl (.nil)) (fun s hs _ => loc_load1 rfl) (by exact .nil) ?_
      refine dq_pure rfl (fun s => .g rfl (.nil)) (fun s hs _ => loc_move rfl) (by exact .nil) ?_
      first | refine dq_pure rfl (fun s => .op rfl (.op rfl (.nil))) (fun s hs _ => loc_index rfl rfl (by first | omega | assumption)) (by exact .nil) ?_ | refine dq_pure rfl (fun s => .op rfl (.op rfl (.nil))) (fun s hs _ => loc_indexI rfl rfl (by first | omega | assumption)) (by exact .nil) ?_
      refine dq_pure rfl (fun s => .op rfl (.nil)) (fun s hs _ => loc_fieldAddr rfl) (by exact .nil) ?_
      refine dq_pure rfl (fun s => .op rfl (.nil)) (fun s hs _ => loc_loadN rfl rfl) (by exact .nil) ?_
      refine dq_pure rfl (fun s => .op rfl (.op rfl (.nil))) (fun s hs _ => loc_neqI rfl rfl (.cons (.cons (.cons (.cons (.cons (.nil)))))) rfl) (by exact .nil) ?_
      refine dq_pure rfl (fun s => .op rfl (.nil)) (fun s hs _ => loc_move rfl) (by exact .nil) ?_
      refine dq_gpure rfl (fun s => .g rfl (.nil)) rfl (fun _ => by first | exact guard_true _ | exact guard_false _ | exact guard_if (guard_true _) | exact guard_if (guard_false _)) (fun s hs hg _ => loc_fieldAddr rfl) (by exact .nil) ?_
      refine dq_gpure rfl (fun s => .opU rfl (.nil)) rfl (fun _ => by first | exact guard_true _ | exact guard_false _ | exact guard_if (guard_true _) | exact guard_if (guard_false _)) (fun s hs hg _ => loc_load1 rfl) (by exact .nil) ?_
      refine dq_gpure rfl (fun s => .g rfl (.nil)) rfl (fun _ => by first | exact guard_true _ | exact guard_false _ | exact guard_if (guard_true _) | exact guard_if (guard_false _)) (fun s hs hg _ => loc_move rfl) (by exact .nil) ?_
      first | refine dq_gpure rfl (fun s => .opU rfl (.opU rfl (.nil))) rfl (fun _ => by first | exact guard_true _ | exact guard_false _ | exact guard_if (guard_true _) | exact guard_if (guard_false _)) (fun s hs hg _ => loc_index rfl rfl (by first | omega | assumption)) (by exact .nil) ?_ | refine dq_gpure rfl (fun s => .opU rfl (.opU rfl (.nil))) rfl (fun _ => by first | exact guard_true _ | exact guard_false _ | exact guard_if (guard_true _) | exact guard_if (guard_false _)) (fun s hs hg _ => loc_indexI rfl rfl (by first | omega | assumption)) (by exact .nil) ?_
      refine dq_gpure rfl (fun s => .opU rfl (.nil)) rfl (fun _ => by first | exact guard_true _ | exact guard_false _ | exact guard_if (guard_true _) | exact guard_if (guard_false _)) (fun s hs hg _ => loc_fieldAddr rfl) (by exact .nil) ?_
      refine dq_gpure rfl (fun s => .opU rfl (.nil)) rfl (fun _ => by first | exact guard_true _ | exact guard_false _ | exact guard_if (guard_true _) | exact guard_if (guard_false _)) (fun s hs hg _ => loc_load1 rfl) (by exact .nil) ?_
      refine dq_gpure rfl (fun s => .g rfl (.nil)) rfl (fun _ => by first | exact guard_true _ | exact guard_false _ | exact guard_if (guard_true _) | exact guard_if (guard_false _)) (fun s hs hg _ => loc_fieldAddr rfl) (by exact .nil) ?_
      refine dq_gpure rfl (fun s => .opU rfl (.nil)) rfl (fun _ => by first | exact guard_true _ | exact guard_false _ | exact guard_if (guard_true _) | exact guard_if (guard_false _)) (fun s hs hg _ => loc_load1 rfl) (by exact .nil) ?_
      refine dq_gpure rfl (fun s => .g rfl (.nil)) rfl (fun _ => by first | exact guard_true _ | exact guard_false _ | exact guard_if (guard_true _) | exact guard_if (guard_false _)) (fun s hs hg _ => loc_move rfl) (by exact .nil) ?_
      first | refine dq_gpure rfl (fun s => .opU rfl (.opU rfl (.nil))) rfl (fun _ => by first | exact guard_true _ | exact guard_false _ | exact guard_if (guard_true _) | exact guard_if (guard_false _)) (fun s hs hg _ => loc_index rfl rfl (by first | omega | assumption)) (by exact .nil) ?_ | refine dq_gpure rfl (fun s => .opU rfl (.opU rfl (.nil))) rfl (fun _ => by first | exact guard_true _ | exact guard_false _ | exact guard_if (guard_true _) | exact guard_if (guard_false _)) (fun s hs hg _ => loc_indexI rfl rfl (by first | omega | assumption)) (by exact .nil) ?_
      refine dq_gpure rfl (fun s => .opU rfl (.nil)) rfl (fun _ => by first | exact guard_true _ | exact guard_false _ | exact guard_if (guard_true _) | exact guard_if (guard_false _)) (fun s hs hg _ => loc_fieldAddr rfl) (by exact .nil) ?_
      refine dq_gpure rfl (fun s => .opU rfl (.nil)) rfl (fun _ => by first | exact guard_true _ | exact guard_false _ | exact guard_if (guard_true _) | exact guard_if (guard_false _)) (fun s hs hg _ => loc_load1 rfl) (by exact .nil) ?_
      refine dq_gpure rfl (fun s => .opU rfl (.opU rfl (.nil))) rfl (fun _ => by first | exact guard_true _ | exact guard_false _ | exact guard_if (guard_true _) | exact guard_if (guard_false _)) (fun s hs hg _ => loc_call (sameRs30_spec _ _) rfl) (by exact .nil) ?_
      refine dq_gpure rfl (fun s => .opU rfl (.nil)) rfl (fun _ => by first | exact guard_true _ | exact guard_false _ | exact guard_if (guard_true _) | exact guard_if (guard_false _)) (fun s hs hg _ => loc_not rfl) (by exact .nil) ?_
      refine dq_pure rfl (fun s => .op rfl (.op rfl (.nil))) (fun s hs _ => loc_or rfl rfl) (by exact .nil) ?_
      refine dq_end (rs := []) () rfl (fun _ => rfl) (.nil) rfl (fun _ _ => ?_)
      dsimp only [outG, outM, List.map, List.set, id]
      refine run_cond rfl (fun h5 => ?_) (fun h5 => ?_)
      ·
        have g9 := h5
        refine run_seq ?_
        refine run_region ?_
        refine run_op (loc_assign rfl) rfl ?_
        refine run_nil ?_
        refine run_retP Try.func17 rfl rfl ?_
        exact d_B ⟨False.elim, fun h => by subst h; simp at g9⟩
      ·
        have g9 := h5
        simp only [not_or, ne_eq, Classical.not_not, List.cons.injEq, and_true] at g9
        refine run_skip ?_
        refine run_inBlock ?_
        refine run_region ?_
        refine run_op (loc_move rfl) rfl ?_
        first | refine run_op (loc_add rfl rfl (by first | omega | assumption)) rfl ?_ | refine run_op (loc_addW rfl rfl) rfl ?_
        refine run_op (loc_assign rfl) rfl ?_
        refine run_nil ?_
        exact run_againC ih2 (k + 1) (⟨by omega, fun j hj => by by_cases e : j = k; (· subst e; exact Held.ext' (Hd.ext' (by simp_all) (by simp_all) (by simp_all) (by simp_all) (by simp_all)) (by simp_all)); (· exact hbk j (by omega))⟩) (by omega) (.cons rfl (by first | exact fun _ _ h => h | exact d_int (by omega) | exact d_int (by simp) | exact d_intN (by omega) | exact d_any) .nil) (.cons rfl (fun _ _ x => x) (.cons rfl (fun _ _ x => x) (.nil)))
    ·
      refine run_exit rfl ?_
      refine run_seq ?_
      refine run_seq ?_
      refine run_region ?_
      refine run_op (loc_assign rfl) rfl ?_
      refine run_nil ?_
      refine run_block ?_
      refine run_loopC (σ := Nat) (ks := [2, 3]) (.cons rfl (.cons rfl (.nil))) (fun u => [(6, dInt .i64 (u : Nat))]) (fun u => u ≤ a.jobs.length ∧ (∀ j, j < u → a.jobs[j]?.getD default = b.jobs[j]?.getD default)) (fun u => a.jobs.length - u) (0) (⟨by omega, fun j hj => by omega⟩) (.cons rfl (by first | exact fun _ _ h => h | exact d_int (by omega) | exact d_int (by simp) | exact d_intN (by omega) | exact d_any) .nil) ?_
      rintro u ⟨hu, hbu⟩ ih6
      refine run_seq ?_
      refine run_seq ?_
      refine run_region ?_
      refine run_op (loc_move rfl) rfl ?_
      refine run_op (loc_fieldAddr rfl) rfl ?_
      refine run_op (loc_load1 rfl) rfl ?_
      first | refine runL_fact (s := 84) rfl (fun _ _ h => dSl_len h) (fun hlen7 => ?_) | skip
      refine run_op (loc_len rfl) rfl ?_
      refine run_op (loc_lss rfl rfl) rfl ?_
      refine run_nil ?_
      refine run_cond rfl (fun h8 => ?_) (fun h8 => ?_)
      ·
        refine run_skip ?_
        refine run_seq ?_
        refine run_block ?_
        refine run_seq ?_
        refine run_addNone ?_
        refine run_addNone ?_
        refine dr_start _ (.two (τ1 := Nat) (τ2 := Nat) 10 11 (fun _ => True) (fun _ => True)) [⟨[(2, none)], [], none⟩,
            ⟨[(89, some (0, false))], [0], none⟩,
            ⟨[(6, none)], [], none⟩,
            ⟨[(90, some (1, false)), (91, some (2, false))], [0, 1, 2], none⟩,
            ⟨[(92, some (3, false))], [0, 1, 2, 3], none⟩,
            ⟨[(3, none)], [], none⟩,
            ⟨[(94, some (5, false))], [5], none⟩,
            ⟨[(6, none)], [], none⟩,
            ⟨[(95, some (6, false)), (96, some (7, false))], [5, 6, 7], none⟩,
            ⟨[(97, some (8, false))], [5, 6, 7, 8], none⟩,
            ⟨[], [], some (1, 0, true)⟩,
            ⟨[], [], some (0, 0, true)⟩,
            ⟨[(7, some (10, false)), (93, some (4, false))], [0, 1, 2, 3, 4, 10, 11], some (1, 1, true)⟩,
            ⟨[(8, some (11, false)), (98, some (9, false))], [0, 1, 2, 3, 4, 5, 6, 7, 8, 9, 10, 11, 12], some (0, 1, true)⟩] [_, _] _ rfl rfl ?_
        refine dq_pure rfl (fun s => .g rfl (.nil)) (fun s hs _ => loc_fieldAddr rfl) (by exact .cons (.inr fun s s' h => by obtain ⟨a, b⟩ := s; obtain ⟨c, d⟩ := s'; have h : d = b := h; subst h; exact rfl) (.cons (.inr fun s s' h => by obtain ⟨a, b⟩ := s; obtain ⟨c, d⟩ := s'; have h : c = a := h; subst h; exact rfl) (.nil))) ?_
        refine dq_pure rfl (fun s => .op rfl (.nil)) (fun s hs _ => loc_load1 rfl) (by exact .cons (.inr fun s s' h => by obtain ⟨a, b⟩ := s; obtain ⟨c, d⟩ := s'; have h : d = b := h; subst h; exact rfl) (.cons (.inr fun s s' h => by obtain ⟨a, b⟩ := s; obtain ⟨c, d⟩ := s'; have h : c = a := h; subst h; exact rfl) (.nil))) ?_
        refine dq_pure rfl (fun s => .g rfl (.nil)) (fun s hs _ => loc_move rfl) (by exact .cons (.inr fun s s' h => by obtain ⟨a, b⟩ := s; obtain ⟨c, d⟩ := s'; have h : d = b := h; subst h; exact rfl) (.cons (.inr fun s s' h => by obtain ⟨a, b⟩ := s; obtain ⟨c, d⟩ := s'; have h : c = a := h; subst h; exact rfl) (.nil))) ?_
        first | refine dq_pure rfl (fun s => .op rfl (.op rfl (.nil))) (fun s hs _ => loc_index rfl rfl (by first | omega | assumption)) (by exact .cons (.inr fun s s' h => by obtain ⟨a, b⟩ := s; obtain ⟨c, d⟩ := s'; have h : d = b := h; subst h; exact rfl) (.cons (.inr fun s s' h => by obtain ⟨a, b⟩ := s; obtain ⟨c, d⟩ := s'; have h : c = a := h; subst h; exact rfl) (.nil))) ?_ | refine dq_pure rfl (fun s => .op rfl (.op rfl (.nil))) (fun s hs _ => loc_indexI rfl rfl (by first | omega | assumption)) (by exact .cons (.inr fun s s' h => by obtain ⟨a, b⟩ := s; obtain ⟨c, d⟩ := s'; have h : d = b := h; subst h; exact rfl) (.cons (.inr fun s s' h => by obtain ⟨a, b⟩ := s; obtain ⟨c, d⟩ := s'; have h : c = a := h; subst h; exact rfl) (.nil))) ?_
        refine dq_pure rfl (fun s => .op rfl (.nil)) (fun s hs _ => loc_loadN rfl rfl) (by exact .cons (.inr fun s s' h => by obtain ⟨a, b⟩ := s; obtain ⟨c, d⟩ := s'; have h : d = b := h; subst h; exact rfl) (.cons (.inr fun s s' h => by obtain ⟨a, b⟩ := s; obtain ⟨c, d⟩ := s'; have h : c = a := h; subst h; exact rfl) (.nil))) ?_
        refine dq_pure rfl (fun s => .g rfl (.nil)) (fun s hs _ => loc_fieldAddr rfl) (by exact .cons (.inr fun s s' h => by obtain ⟨a, b⟩ := s; obtain ⟨c, d⟩ := s'; have h : d = b := h; subst h; exact rfl) (.cons (.inr fun s s' h => by obtain ⟨a, b⟩ := s; obtain ⟨c, d⟩ := s'; have h : c = a := h; subst h; exact rfl) (.nil))) ?_
        refine dq_pure rfl (fun s => .op rfl (.nil)) (fun s hs _ => loc_load1 rfl) (by exact .cons (.inr fun s s' h => by obtain ⟨a, b⟩ := s; obtain ⟨c, d⟩ := s'; have h : d = b := h; subst h; exact rfl) (.cons (.inr fun s s' h => by obtain ⟨a, b⟩ := s; obtain ⟨c, d⟩ := s'; have h : c = a := h; subst h; exact rfl) (.nil))) ?_
        refine dq_pure rfl (fun s => .g rfl (.nil)) (fun s hs _ => loc_move rfl) (by exact .cons (.inr fun s s' h => by obtain ⟨a, b⟩ := s; obtain ⟨c, d⟩ := s'; have h : d = b := h; subst h; exact rfl) (.cons (.inr fun s s' h => by obtain ⟨a, b⟩ := s; obtain ⟨c, d⟩ := s'; have h : c = a := h; subst h; exact rfl) (.nil))) ?_
        first | refine dq_pure rfl (fun s => .op rfl (.op rfl (.nil))) (fun s hs _ => loc_index rfl rfl (by first | omega | assumption)) (by exact .cons (.inr fun s s' h => by obtain ⟨a, b⟩ := s; obtain ⟨c, d⟩ := s'; have h : d = b := h; subst h; exact rfl) (.cons (.inr fun s s' h => by obtain ⟨a, b⟩ := s; obtain ⟨c, d⟩ := s'; have h : c = a := h; subst h; exact rfl) (.nil))) ?_ | refine dq_pure rfl (fun s => .op rfl (.op rfl (.nil))) (fun s hs _ => loc_indexI rfl rfl (by first | omega | assumption)) (by exact .cons (.inr fun s s' h => by obtain ⟨a, b⟩ := s; obtain ⟨c, d⟩ := s'; have h : d = b := h; subst h; exact rfl) (.cons (.inr fun s s' h => by obtain ⟨a, b⟩ := s; obtain ⟨c, d⟩ := s'; have h : c = a := h; subst h; exact rfl) (.nil))) ?_
        refine dq_pure rfl (fun s => .op rfl (.nil)) (fun s hs _ => loc_loadN rfl rfl) (by exact .cons (.inr fun s s' h => by obtain ⟨a, b⟩ := s; obtain ⟨c, d⟩ := s'; have h : d = b := h; subst h; exact rfl) (.cons (.inr fun s s' h => by obtain ⟨a, b⟩ := s; obtain ⟨c, d⟩ := s'; have h : c = a := h; subst h; exact rfl) (.nil))) ?_
        refine dq_choose Prod.fst (fun s t => (t, s.2)) rfl (fun _ _ => ⟨rfl, id, rfl⟩) (fun s => .nil) rfl rfl (fun s hs => locM_new (loc_allocOwn (by simp))) (by exact .cons (.inl rfl) (.cons (.inr (.inr fun s s' h => by obtain ⟨a, b⟩ := s; obtain ⟨c, d⟩ := s'; have h : c = a := h; subst h; exact rfl)) (.nil))) ?_
        refine dq_choose Prod.snd (fun s t => (s.1, t)) rfl (fun _ _ => ⟨rfl, id, rfl⟩) (fun s => .nil) rfl rfl (fun s hs => locM_new (loc_allocOwn (by simp))) (by exact .cons (.inr (.inr fun s s' h => by obtain ⟨a, b⟩ := s; obtain ⟨c, d⟩ := s'; have h : d = b := h; subst h; exact rfl)) (.cons (.inl rfl) (.nil))) ?_
        refine dq_write0 rfl (fun s => .op rfl (.op rfl (.nil))) rfl rfl (fun s hs => loc_storeN (ho := (by show OneAll [_, _, _, _, _]; infer_instance)) rfl rfl rfl) (by exact .cons (.inl rfl) (.cons (.inl rfl) (.nil))) ?_
        refine dq_write0 rfl (fun s => .op rfl (.op rfl (.nil))) rfl rfl (fun s hs => loc_storeN (ho := (by show OneAll [_, _, _, _, _]; infer_instance)) rfl rfl rfl) (by exact .cons (.inl rfl) (.cons (.inl rfl) (.nil))) ?_
        refine dq_end (rs := [_, _]) (0, 0) rfl (fun _ => rfl) (.cons rfl (.cons rfl (.nil))) rfl (fun s9 _ => ?_)
        obtain ⟨b9, b10⟩ := s9
        dsimp only [outG, outM, List.map, List.set, id]
        refine run_seq ?_
        refine run_region ?_
        refine run_op (loc_fieldAddrOwn rfl) rfl ?_
        refine run_op (loc_loadOwn1 rfl (.there (.here)) (by rfl)) rfl ?_
        refine run_op (loc_fieldAddrOwn rfl) rfl ?_
        refine run_op (loc_loadOwn1 rfl (.here) (by rfl)) rfl ?_
        refine run_op (loc_neq rfl rfl) rfl ?_
        refine run_op (loc_move rfl) rfl ?_
        refine run_gfirst rfl rfl (by first | exact guard_true _ | exact guard_false _ | exact guard_if (guard_true _) | exact guard_if (guard_false _)) (fun hg => loc_fieldAddrOwn rfl) rfl ?_
        refine run_gop rfl rfl (by first | exact guard_true _ | exact guard_false _ | exact guard_if (guard_true _) | exact guard_if (guard_false _)) (fun hg => loc_loadOwn1 rfl (.there (.here)) (by rfl)) rfl ?_
        refine run_gop rfl rfl (by first | exact guard_true _ | exact guard_false _ | exact guard_if (guard_true _) | exact guard_if (guard_false _)) (fun hg => loc_fieldAddrOwn rfl) rfl ?_
        refine run_gop rfl rfl (by first | exact guard_true _ | exact guard_false _ | exact guard_if (guard_true _) | exact guard_if (guard_false _)) (fun hg => loc_loadOwn1 rfl (.here) (by rfl)) rfl ?_
        refine run_gop rfl rfl (by first | exact guard_true _ | exact guard_false _ | exact guard_if (guard_true _) | exact guard_if (guard_false _)) (fun hg => loc_neq rfl rfl) rfl ?_
        refine run_gleave ?_
        refine run_op (loc_or rfl rfl) rfl ?_
        refine run_op (loc_move rfl) rfl ?_
        refine run_gfirst rfl rfl (by first | exact guard_true _ | exact guard_false _ | exact guard_if (guard_true _) | exact guard_if (guard_false _)) (fun hg => loc_fieldAddrOwn rfl) rfl ?_
        refine run_gop rfl rfl (by first | exact guard_true _ | exact guard_false _ | exact guard_if (guard_true _) | exact guard_if (guard_false _)) (fun hg => loc_loadOwn1 rfl (.there (.here)) (by rfl)) rfl ?_
        refine run_gop rfl rfl (by first | exact guard_true _ | exact guard_false _ | exact guard_if (guard_true _) | exact guard_if (guard_false _)) (fun hg => loc_fieldAddrOwn rfl) rfl ?_
        refine run_gop rfl rfl (by first | exact guard_true _ | exact guard_false _ | exact guard_if (guard_true _) | exact guard_if (guard_false _)) (fun hg => loc_loadOwn1 rfl (.here) (by rfl)) rfl ?_
        refine run_gop rfl rfl (by first | exact guard_true _ | exact guard_false _ | exact guard_if (guard_true _) | exact guard_if (guard_false _)) (fun hg => loc_neq rfl rfl) rfl ?_
        refine run_gleave ?_
        refine run_op (loc_or rfl rfl) rfl ?_
        refine run_op (loc_move rfl) rfl ?_
        refine run_gfirst rfl rfl (by first | exact guard_true _ | exact guard_false _ | exact guard_if (guard_true _) | exact guard_if (guard_false _)) (fun hg => loc_fieldAddrOwn rfl) rfl ?_
        refine run_gop rfl rfl (by first | exact guard_true _ | exact guard_false _ | exact guard_if (guard_true _) | exact guard_if (guard_false _)) (fun hg => loc_loadOwn1 rfl (.there (.here)) (by rfl)) rfl ?_
        refine run_gop rfl rfl (by first | exact guard_true _ | exact guard_false _ | exact guard_if (guard_true _) | exact guard_if (guard_false _)) (fun hg => loc_fieldAddrOwn rfl) rfl ?_
        refine run_gop rfl rfl (by first | exact guard_true _ | exact guard_false _ | exact guard_if (guard_true _) | exact guard_if (guard_false _)) (fun hg => loc_loadOwn1 rfl (.here) (by rfl)) rfl ?_
        refine run_gop rfl rfl (by first | exact guard_true _ | exact guard_false _ | exact guard_if (guard_true _) | exact guard_if (guard_false _)) (fun hg => loc_call (ints30_spec _ _) rfl) rfl ?_
        refine run_gop rfl rfl (by first | exact guard_true _ | exact guard_false _ | exact guard_if (guard_true _) | exact guard_if (guard_false _)) (fun hg => loc_not rfl) rfl ?_
        refine run_gleave ?_
        refine run_op (loc_or rfl rfl) rfl ?_
        refine run_op (loc_move rfl) rfl ?_
        refine run_gfirst rfl rfl (by first | exact guard_true _ | exact guard_false _ | exact guard_if (guard_true _) | exact guard_if (guard_false _)) (fun hg => loc_fieldAddrOwn rfl) rfl ?_
        refine run_gop rfl rfl (by first | exact guard_true _ | exact guard_false _ | exact guard_if (guard_true _) | exact guard_if (guard_false _)) (fun hg => loc_loadOwn1 rfl (.there (.here)) (by rfl)) rfl ?_
        refine run_gop rfl rfl (by first | exact guard_true _ | exact guard_false _ | exact guard_if (guard_true _) | exact guard_if (guard_false _)) (fun hg => loc_fieldAddrOwn rfl) rfl ?_
        refine run_gop rfl rfl (by first | exact guard_true _ | exact guard_false _ | exact guard_if (guard_true _) | exact guard_if (guard_false _)) (fun hg => loc_loadOwn1 rfl (.here) (by rfl)) rfl ?_
        refine run_gop rfl rfl (by first | exact guard_true _ | exact guard_false _ | exact guard_if (guard_true _) | exact guard_if (guard_false _)) (fun hg => loc_call (ints30_spec _ _) rfl) rfl ?_
        refine run_gop rfl rfl (by first | exact guard_true _ | exact guard_false _ | exact guard_if (guard_true _) | exact guard_if (guard_false _)) (fun hg => loc_not rfl) rfl ?_
        refine run_gleave ?_
        refine run_op (loc_or rfl rfl) rfl ?_
        refine run_nil ?_
        refine run_cond rfl (fun h11 => ?_) (fun h11 => ?_)
        ·
          have f9 := h11
          refine run_seq ?_
          refine run_region ?_
          refine run_op (loc_assign rfl) rfl ?_
          refine run_nil ?_
          refine run_drop (.cons _ (.cons _ (.refl _))) ?_
          refine run_retP Try.func17 rfl rfl ?_
          exact d_B ⟨False.elim, fun h => by subst h; simp at f9⟩
        ·
          have f9 := h11
          simp only [not_or, ne_eq, Classical.not_not, List.cons.injEq, and_true] at f9
          refine run_skip ?_
          refine run_inBlock ?_
          refine run_region ?_
          refine run_op (loc_move rfl) rfl ?_
          first | refine run_op (loc_add rfl rfl (by first | omega | assumption)) rfl ?_ | refine run_op (loc_addW rfl rfl) rfl ?_
          refine run_op (loc_assign rfl) rfl ?_
          refine run_nil ?_
          refine run_drop (.cons _ (.cons _ (.refl _))) ?_
          exact run_againC ih6 (u + 1) (⟨by omega, fun j hj => by by_cases e : j = u; (· subst e; exact Job.ext' (by simp_all) (by simp_all) (by simp_all) (by simp_all) (by simp_all)); (· exact hbu j (by omega))⟩) (by omega) (.cons rfl (by first | exact fun _ _ h => h | exact d_int (by omega) | exact d_int (by simp) | exact d_intN (by omega) | exact d_any) .nil) (.cons rfl (fun _ _ x => x) (.cons rfl (fun _ _ x => x) (.nil)))
      ·
        refine run_exit rfl ?_
        refine run_seq ?_
        refine run_region ?_
        refine run_op (loc_assign rfl) rfl ?_
        refine run_nil ?_
        refine run_retP Try.func17 rfl rfl ?_
        exact d_B ⟨fun _ => Srv.ext' (by simp_all) (Schm.ext' (by simp_all) (by simp_all) (by simp_all) (by simp_all)) (by simp_all) (list_extD (by omega) (fun j hj => hbk j (by omega))) (list_extD (by omega) (fun j hj => hbu j (by omega))), fun _ => trivial⟩

end Go.Q

namespace Go.Q
open Classical

theorem app_mem_left {α : Type} [Inhabited α] {xs ys : List α} {j : Nat} (h : j < xs.length) : (xs ++ ys)[j]?.getD default ∈ xs := by
  rw [List.getElem?_append_left h]; exact getD_mem h
theorem app_mem_right {α : Type} [Inhabited α] {xs ys : List α} {j : Nat} (h : xs.length ≤ j) (h2 : j < (xs ++ ys).length) : (xs ++ ys)[j]?.getD default ∈ ys := by
  rw [List.length_append] at h2
  rw [List.getElem?_append_right h]; exact getD_mem (by omega)
theorem ins_at {v : Srv} {vs1 vs2 : List Held} {n : Int} (hv : v.versions = vs1 ++ vs2) (h1 : ∀ h ∈ vs1, h.head.number < n) (h2 : ∀ h ∈ vs2, n < h.head.number) : atV v n = vs1.length ∧ ¬ thereV v n := by
  have e : atV v n = vs1.length := by
    refine atV_at (by rw [hv, List.length_append]; omega) (fun a ha => ?_) (fun a ha hb => ?_)
    · rw [hv]; exact h1 _ (app_mem_left ha)
    · rw [hv] at hb ⊢; have := h2 _ (app_mem_right ha hb); omega
  refine ⟨e, fun h => ?_⟩
  obtain ⟨h3, h4⟩ := h
  rw [e] at h3 h4
  rw [hv] at h3 h4
  have h5 := h2 _ (app_mem_right (Nat.le_refl _) h3)
  have h6 := cmpI_zero.1 h4
  omega
theorem del_at {v : Srv} {vs1 vs2 : List Held} {h0 : Held} {n : Int} (hv : v.versions = vs1 ++ h0 :: vs2) (h0n : h0.head.number = n) (h1 : ∀ h ∈ vs1, h.head.number < n) (h2 : ∀ h ∈ vs2, n < h.head.number) : atV v n = vs1.length ∧ thereV v n := by
  have e : atV v n = vs1.length := by
    refine atV_at (by rw [hv, List.length_append]; omega) (fun a ha => ?_) (fun a ha hb => ?_)
    · rw [hv]; exact h1 _ (app_mem_left ha)
    · rw [hv] at hb ⊢
      rcases List.mem_cons.1 (app_mem_right ha hb) with h | h
      · rw [h, h0n]; exact Int.le_refl _
      · have := h2 _ h; omega
  refine ⟨e, by rw [e, hv]; simp, ?_⟩
  rw [e, hv, List.getElem?_append_right (Nat.le_refl _), Nat.sub_self]
  exact cmpI_zero.2 h0n
theorem load_ins {v : Srv} {t : Tab} {vs1 vs2 : List Held} (hu : v.up) (ht : checkT t = 0) (hvs : validS v.scheme t.p) (hr : 1 ≤ t.rows.length) (hid : 1 ≤ v.id ∧ v.id ≤ v.scheme.servers) (hv : v.versions = vs1 ++ vs2) (hl : v.versions.length < 16) (h1 : ∀ h ∈ vs1, h.head.number < t.number) (h2 : ∀ h ∈ vs2, t.number < h.head.number) :
    loadE v t = 0 ∧ loadV v t = { v with versions := vs1 ++ ⟨headT t, hldL v.scheme t v.id⟩ :: vs2 } := by
  obtain ⟨h3, h4⟩ := ins_at hv h1 h2
  have e : loadE v t = 0 := by
    unfold loadE
    rw [if_neg (Classical.not_not.2 hu), if_neg (Classical.not_not.2 ht), if_neg (Classical.not_not.2 hvs), if_neg (by omega), if_neg h4, if_neg (by omega)]
    exact (hld_ok hvs ht hr hid).1
  refine ⟨e, ?_⟩
  unfold loadV
  rw [if_pos e, h3, hv, List.take_left' rfl, List.drop_left' rfl]
  simp
/-- A server that holds those of three versions that a mask names. -/
def mk3 (T : Nat → Held) (m : Nat → Bool) : List Held := (if m 0 then [T 0] else []) ++ ((if m 1 then [T 1] else []) ++ (if m 2 then [T 2] else []))
noncomputable def heldT (s : Schm) (id : Int) (t : Tab) : Held := ⟨headT t, hldL s t id⟩
noncomputable def vM (s : Schm) (id : Int) (T : Nat → Tab) (m : Nat → Bool) : Srv := ⟨id, s, True, mk3 (fun k => heldT s id (T k)) m, []⟩
/-- Three tables with numbers that ascend. -/
def okT3 (s : Schm) (T : Nat → Tab) : Prop := (∀ k, k < 3 → checkT (T k) = 0 ∧ validS s (T k).p ∧ 1 ≤ (T k).rows.length) ∧ (T 0).number < (T 1).number ∧ (T 1).number < (T 2).number
theorem heldT_number {s : Schm} {id : Int} {t : Tab} (h : checkT t = 0) : (heldT s id t).head.number = t.number := by unfold heldT; rw [head_ok h]
theorem mem_if {α : Type} {b : Bool} {x y : α} (h : x ∈ (if b then [y] else [])) : x = y := by cases b <;> simp at h; exact h
theorem mk3_len (T : Nat → Held) (m : Nat → Bool) : (mk3 T m).length ≤ 3 := by unfold mk3; cases m 0 <;> cases m 1 <;> cases m 2 <;> simp
theorem vM_congr {s : Schm} {id : Int} {T : Nat → Tab} {m m' : Nat → Bool} (h0 : m 0 = m' 0) (h1 : m 1 = m' 1) (h2 : m 2 = m' 2) : vM s id T m = vM s id T m' := by unfold vM mk3; rw [h0, h1, h2]
theorem vM_versions (s : Schm) (id : Int) (T : Nat → Tab) (m : Nat → Bool) : (vM s id T m).versions = mk3 (fun k => heldT s id (T k)) m := rfl
theorem load_mask {s : Schm} {id : Int} {T : Nat → Tab} {m : Nat → Bool} {k : Nat} (hT : okT3 s T) (hid : 1 ≤ id ∧ id ≤ s.servers) (hk : k < 3) (hm : m k = false) : loadE (vM s id T m) (T k) = 0 ∧ loadV (vM s id T m) (T k) = vM s id T (fun j => m j || decide (j = k)) := by
  obtain ⟨h1, h2, h3⟩ := hT
  obtain ⟨a1, a2, a3⟩ := h1 k hk
  have n0 := heldT_number (s := s) (id := id) (h1 0 (by omega)).1
  have n1 := heldT_number (s := s) (id := id) (h1 1 (by omega)).1
  have n2 := heldT_number (s := s) (id := id) (h1 2 (by omega)).1
  have hl : (vM s id T m).versions.length < 16 := by have := mk3_len (fun k => heldT s id (T k)) m; rw [vM_versions]; omega
  have hc : k = 0 ∨ k = 1 ∨ k = 2 := by omega
  rcases hc with rfl | rfl | rfl
  · obtain ⟨e1, e2⟩ := load_ins (v := vM s id T m) (t := T 0) (vs1 := []) (vs2 := (if m 1 then [heldT s id (T 1)] else []) ++ (if m 2 then [heldT s id (T 2)] else [])) trivial a1 a2 a3 hid (by rw [vM_versions]; unfold mk3; rw [hm]; simp) hl (fun h hh => by cases hh) (fun h hh => by
      rcases List.mem_append.1 hh with hh | hh
      · rw [mem_if hh, n1]; omega
      · rw [mem_if hh, n2]; omega)
    refine ⟨e1, e2.trans ?_⟩
    cases f1 : m 1 <;> cases f2 : m 2 <;> simp [vM, mk3, heldT, hm, f1, f2]
  · obtain ⟨e1, e2⟩ := load_ins (v := vM s id T m) (t := T 1) (vs1 := if m 0 then [heldT s id (T 0)] else []) (vs2 := if m 2 then [heldT s id (T 2)] else []) trivial a1 a2 a3 hid (by rw [vM_versions]; unfold mk3; rw [hm]; simp) hl (fun h hh => by rw [mem_if hh, n0]; omega) (fun h hh => by rw [mem_if hh, n2]; omega)
    refine ⟨e1, e2.trans ?_⟩
    cases f1 : m 0 <;> cases f2 : m 2 <;> simp [vM, mk3, heldT, hm, f1, f2]
  · obtain ⟨e1, e2⟩ := load_ins (v := vM s id T m) (t := T 2) (vs1 := (if m 0 then [heldT s id (T 0)] else []) ++ (if m 1 then [heldT s id (T 1)] else [])) (vs2 := []) trivial a1 a2 a3 hid (by rw [vM_versions]; unfold mk3; rw [hm]; simp) hl (fun h hh => by
      rcases List.mem_append.1 hh with hh | hh
      · rw [mem_if hh, n0]; omega
      · rw [mem_if hh, n1]; omega) (fun h hh => by cases hh)
    refine ⟨e1, e2.trans ?_⟩
    cases f1 : m 0 <;> cases f2 : m 1 <;> simp [vM, mk3, heldT, hm, f1, f2]
end Go.Q

namespace Go.Q

def perms3 : List (List Int) := [[0, 1, 2], [0, 2, 1], [1, 0, 2], [1, 2, 0], [2, 0, 1], [2, 1, 0]]
def mb (ord : List Int) (n : Nat) (j : Nat) : Bool := (ord.take n).contains (j : Int)
def ma (n : Nat) (j : Nat) : Bool := decide (j < n)
theorem perm_step : ∀ ord ∈ perms3, ∀ n, n < 3 → (0 ≤ ord[n]?.getD 0 ∧ ord[n]?.getD 0 < 3) ∧ mb ord n (ord[n]?.getD 0).toNat = false ∧ ∀ j, j < 3 → (mb ord n j || decide (j = (ord[n]?.getD 0).toNat)) = mb ord (n + 1) j := by decide
theorem perm_len : ∀ ord ∈ perms3, ord.length = 3 := by decide
theorem perm_end : ∀ ord ∈ perms3, ∀ j, j < 3 → mb ord 3 j = true := by decide
theorem ma_step (n : Nat) : ∀ j, (ma n j || decide (j = n)) = ma (n + 1) j := by
  intro j
  unfold ma
  by_cases h : j < n + 1
  · rw [decide_eq_true h]
    by_cases h2 : j = n
    · simp [h2]
    · simp; omega
  · rw [decide_eq_false h]; simp; omega
open Classical
theorem load_a {s : Schm} {id : Int} {T : Nat → Tab} {n : Nat} (hT : okT3 s T) (hid : 1 ≤ id ∧ id ≤ s.servers) (hn : n < 3) : loadE (vM s id T (ma n)) (T n) = 0 ∧ loadV (vM s id T (ma n)) (T n) = vM s id T (ma (n + 1)) := by
  obtain ⟨h1, h2⟩ := load_mask (m := ma n) hT hid hn (by unfold ma; simp)
  exact ⟨h1, h2.trans (vM_congr (ma_step n 0) (ma_step n 1) (ma_step n 2))⟩
theorem load_b {s : Schm} {id : Int} {T : Nat → Tab} {ord : List Int} {n : Nat} (hT : okT3 s T) (hid : 1 ≤ id ∧ id ≤ s.servers) (ho : ord ∈ perms3) (hn : n < 3) : loadE (vM s id T (mb ord n)) (T (ord[n]?.getD 0).toNat) = 0 ∧ loadV (vM s id T (mb ord n)) (T (ord[n]?.getD 0).toNat) = vM s id T (mb ord (n + 1)) := by
  obtain ⟨h1, h2, h3⟩ := perm_step ord ho n hn
  obtain ⟨h4, h5⟩ := load_mask (m := mb ord n) hT hid (by omega) h2
  exact ⟨h4, h5.trans (vM_congr (h3 0 (by omega)) (h3 1 (by omega)) (h3 2 (by omega)))⟩
theorem end_ab {s : Schm} {id : Int} {T : Nat → Tab} {ord : List Int} (ho : ord ∈ perms3) : vM s id T (ma 3) = vM s id T (mb ord 3) :=
  vM_congr (by rw [perm_end ord ho 0 (by omega)]; rfl) (by rw [perm_end ord ho 1 (by omega)]; rfl) (by rw [perm_end ord ho 2 (by omega)]; rfl)
theorem vM_zero (s : Schm) (id : Int) (T : Nat → Tab) (ord : List Int) : vM s id T (ma 0) = ⟨id, s, True, [], []⟩ ∧ vM s id T (mb ord 0) = ⟨id, s, True, [], []⟩ := ⟨rfl, rfl⟩
theorem vM_full (s : Schm) (id : Int) (T : Nat → Tab) : (vM s id T (ma 3)).versions = [heldT s id (T 0), heldT s id (T 1), heldT s id (T 2)] := rfl
def mc (j : Nat) : Bool := decide (j ≠ 1)
theorem drop_mid {s : Schm} {id : Int} {T : Nat → Tab} (hT : okT3 s T) : dropE (vM s id T (ma 3)) (T 1).number = 0 ∧ dropV (vM s id T (ma 3)) (T 1).number = vM s id T mc := by
  obtain ⟨h1, h2, h3⟩ := hT
  have n0 := heldT_number (s := s) (id := id) (h1 0 (by omega)).1
  have n1 := heldT_number (s := s) (id := id) (h1 1 (by omega)).1
  have n2 := heldT_number (s := s) (id := id) (h1 2 (by omega)).1
  obtain ⟨e1, e2⟩ := del_at (v := vM s id T (ma 3)) (vs1 := [heldT s id (T 0)]) (vs2 := [heldT s id (T 2)]) (h0 := heldT s id (T 1)) (n := (T 1).number) rfl n1 (fun h hh => by rw [List.mem_singleton.1 hh, n0]; exact h2) (fun h hh => by rw [List.mem_singleton.1 hh, n2]; exact h3)
  have e : dropE (vM s id T (ma 3)) (T 1).number = 0 := by
    unfold dropE
    rw [if_neg (Classical.not_not.2 (show (vM s id T (ma 3)).up from trivial)), if_neg (Classical.not_not.2 e2), if_neg (by rintro ⟨j, hj, _⟩; cases hj)]
  refine ⟨e, ?_⟩
  unfold dropV
  rw [if_pos e, e1]
  rfl
theorem load_mid {s : Schm} {id : Int} {T : Nat → Tab} (hT : okT3 s T) (hid : 1 ≤ id ∧ id ≤ s.servers) : loadE (vM s id T mc) (T 1) = 0 ∧ loadV (vM s id T mc) (T 1) = vM s id T (ma 3) := by
  obtain ⟨h1, h2⟩ := load_mask (m := mc) (k := 1) hT hid (by omega) rfl
  exact ⟨h1, h2.trans (vM_congr rfl rfl rfl)⟩
/-- Sizes of what is held. -/
theorem hld_sz {s : Schm} {t : Tab} {j : Int} (hv : validS s t.p) (ht : checkT t = 0) (hn : 1 ≤ t.rows.length) (hj : 1 ≤ j ∧ j ≤ s.servers) : (hldL s t j).length ≤ 1024 ∧ ∀ r ∈ hldL s t j, r.length ≤ 64 := by
  have hct := checkT_ok ht
  have hs := hv.1
  unfold shapeS at hs
  have h2 := (hld_ok hv ht hn hj).2
  have hn2 : 1 ≤ (t.rows.length : Int) ∧ (t.rows.length : Int) ≤ 1024 := by have := hct.2.2.2.1; omega
  rw [units_ok hv.1 hn2] at h2
  constructor
  · split at h2
    · have := grp_bd hn2 (g := s.group) (by omega); omega
    · omega
  · intro r hr
    unfold hldL at hr
    rw [if_neg (hld_no ht hv hj)] at hr
    split at hr
    · unfold holdG at hr
      split at hr
      · obtain ⟨q, _, rfl⟩ := List.mem_map.1 hr
        unfold heldG
        rw [(heldN_ok (by have := hv.2.1.1; omega) j t.width.toNat q.2 q.2.length).1]
        have := hct.2.2.1; omega
      · cases hr
    · have := (hct.2.2.2.2 r hr).1
      have := hct.2.2.1; omega
theorem vM_sz {s : Schm} {id : Int} {T : Nat → Tab} {m : Nat → Bool} (hT : okT3 s T) (hid : 1 ≤ id ∧ id ≤ s.servers) : (vM s id T m).versions.length ≤ 1000 ∧ (vM s id T m).jobs.length ≤ 1000 ∧ (∀ h ∈ (vM s id T m).versions, h.rows.length ≤ 100000 ∧ ∀ r ∈ h.rows, r.length ≤ 100000) ∧ ∀ j ∈ (vM s id T m).jobs, j.query.length ≤ 100000 ∧ j.got.length ≤ 100000 := by
  have hk : ∀ k, k < 3 → (heldT s id (T k)).rows.length ≤ 100000 ∧ ∀ r ∈ (heldT s id (T k)).rows, r.length ≤ 100000 := by
    intro k h
    obtain ⟨a1, a2, a3⟩ := hT.1 k h
    obtain ⟨b1, b2⟩ := hld_sz a2 a1 a3 hid
    exact ⟨Nat.le_trans b1 (by omega), fun r hr => Nat.le_trans (b2 r hr) (by omega)⟩
  refine ⟨?_, Nat.zero_le _, fun h hh => ?_, fun j hj => by cases hj⟩
  · rw [vM_versions]; exact Nat.le_trans (mk3_len _ m) (by omega)
  · rw [vM_versions] at hh
    unfold mk3 at hh
    rcases List.mem_append.1 hh with hh | hh
    · rw [mem_if hh]; exact hk 0 (by omega)
    · rcases List.mem_append.1 hh with hh | hh
      · rw [mem_if hh]; exact hk 1 (by omega)
      · rw [mem_if hh]; exact hk 2 (by omega)
end Go.Q

namespace Go.Q
open Classical

def prs (i : Nat) : Psn := ⟨(i : Int) + 1, 1000 + ((i : Int) + 1)⟩
def peopleL : List Psn := (List.range 10).map prs
theorem people_len : peopleL.length = 10 := rfl
theorem people_get {k : Nat} (h : k < 10) : peopleL[k]?.getD default = prs k := by
  unfold peopleL
  rw [List.getElem?_map, List.getElem?_range h]; rfl
theorem people_take {k i : Nat} (h : k ≤ 10) (hi : i < k) : (peopleL.take k)[i]?.getD default = prs i := by
  rw [List.getElem?_take, if_pos hi]; exact people_get (by omega)
theorem prs_snoc (k : Nat) : (List.range (k + 1)).map prs = (List.range k).map prs ++ [prs k] := by rw [List.range_succ, List.map_append]; rfl
/-- What a row of weights makes of rows. -/
def combN (p : Int) (w : Nat) (rows : List (List Int)) (q : List Int) : Nat → List Int
  | 0 => List.replicate w 0
  | k + 1 => addT p (q[k]?.getD default) (combN p w rows q k) (rows[k]?.getD default)
theorem combN_ok {p : Int} (hp : 2 ≤ p) (w : Nat) (rows : List (List Int)) (q : List Int) : ∀ k, (combN p w rows q k).length = w ∧ ∀ x ∈ combN p w rows q k, hasP p x
  | 0 => ⟨by simp [combN], rep0_has hp w⟩
  | k + 1 => by
    obtain ⟨h1, h2⟩ := combN_ok hp w rows q k
    exact ⟨by unfold combN; rw [addT_len]; exact h1, by unfold combN; exact addT_has (by omega) h2⟩
theorem addT_at (p x : Int) : ∀ (ts ws : List Int) (j : Nat), j < ts.length → j < ws.length → (addT p x ts ws)[j]?.getD default = (ts[j]?.getD default + x * (ws[j]?.getD default) % p) % p
  | t :: ts, a :: ws, 0, _, _ => by simp [addT]
  | t :: ts, a :: ws, j + 1, h1, h2 => by
    simp only [addT, List.getElem?_cons_succ]
    exact addT_at p x ts ws j (by simpa using h1) (by simpa using h2)
theorem combN_at {p : Int} (hp : 2 ≤ p) {w : Nat} {rows : List (List Int)} {q : List Int} {j : Nat} (hj : j < w) : ∀ k, k ≤ rows.length → (∀ r ∈ rows, r.length = w) → (combN p w rows q k)[j]?.getD default = dotK p j rows q k
  | 0, _, _ => by simp [combN, dotK, List.getElem?_replicate, hj]
  | k + 1, hk, hr => by
    have h1 := combN_at hp hj k (by omega) hr (q := q)
    have hl := (combN_ok hp w rows q k).1
    have hrk := hr _ (getD_mem (xs := rows) (k := k) (by omega))
    unfold combN dotK
    rw [addT_at _ _ _ _ _ (by omega) (by omega), h1, Int.add_emod_emod, Int.mul_comm]
theorem grp_quo1 {n : Nat} {g : Int} (hg : 1 ≤ g) (h : 0 < (n : Int) % g) : (n : Int) / g + 1 = (grpN n g.toNat : Nat) := by
  obtain ⟨m, rfl⟩ : ∃ m : Nat, g = m := ⟨g.toNat, by omega⟩
  have hm : 0 < m := by omega
  rw [← Int.natCast_emod] at h
  have h1 : 0 < n % m := by omega
  unfold grpN
  rw [Int.toNat_natCast, ← Int.natCast_ediv]
  have e : (n + m - 1) / m = n / m + 1 := by
    have h2 := Nat.div_add_mod n m
    have h3 := Nat.mod_lt n hm
    rw [Nat.div_eq_iff hm]
    have e3 : (n / m + 1) * m = m * (n / m) + m := by rw [Nat.add_mul, Nat.one_mul, Nat.mul_comm]
    constructor
    · omega
    · omega
  rw [e]; simp
theorem grp_quo0 {n : Nat} {g : Int} (hg : 1 ≤ g) (h : ¬ 0 < (n : Int) % g) : (n : Int) / g = (grpN n g.toNat : Nat) := by
  obtain ⟨m, rfl⟩ : ∃ m : Nat, g = m := ⟨g.toNat, by omega⟩
  have hm : 0 < m := by omega
  rw [← Int.natCast_emod] at h
  have h1 : n % m = 0 := by omega
  unfold grpN
  rw [Int.toNat_natCast, ← Int.natCast_ediv]
  have e : (n + m - 1) / m = n / m := by
    have h2 := Nat.div_add_mod n m
    rw [Nat.div_eq_iff hm]
    have e3 : (n / m) * m = m * (n / m) := Nat.mul_comm _ _
    constructor
    · omega
    · omega
  rw [e]
end Go.Q

namespace Go.Q
open Go.Proofs

open Classical
theorem people_spec  : SpecP Try.prog 22 [] (dSl 2 cPsn peopleL) := by
  refine specP_of_body Try.func22 rfl rfl (fun I M => ?_)
  refine run_seq ?_
  refine run_region ?_
  refine run_op (loc_assign rfl) rfl ?_
  refine run_nil ?_
  refine run_seq ?_
  refine run_region ?_
  refine run_op (loc_assign rfl) rfl ?_
  refine run_nil ?_
  refine run_seq ?_
  refine run_seq ?_
  refine run_region ?_
  refine run_op (loc_assign rfl) rfl ?_
  refine run_nil ?_
  refine run_block ?_
  refine run_rowNil 63 2 cPsn ?_
  refine run_loopF (σ := Value × Nat) (ks := []) (.nil) (fun q => [(1, dVal q.1), (2, dInt .i64 ((q.2 : Int) + 1))]) (fun q => [rRow q.1 63 2 cPsn ((List.range q.2).map prs)]) (fun q => q.2 ≤ 10) (fun q => 10 - q.2) ((.slice none 0 0, 0)) (Nat.zero_le _) (.cons rfl (by first | exact fun _ _ h => h | exact d_int (by omega) | exact d_int (by simp) | exact d_intN (by omega) | exact d_any) (.cons rfl (d_int (by simp)) .nil)) (rfl) ?_
  intro q hq ih1
  have hpl : ((List.range q.2).map prs).length = q.2 := by simp
  refine run_seq ?_
  refine run_seq ?_
  refine run_region ?_
  refine run_op (loc_move rfl) rfl ?_
  refine run_op (loc_leq rfl rfl) rfl ?_
  refine run_nil ?_
  refine run_cond rfl (fun h2 => ?_) (fun h2 => ?_)
  ·
    refine run_skip ?_
    refine run_seq ?_
    refine run_block ?_
    refine run_region ?_
    refine run_op (loc_move rfl) rfl ?_
    refine run_op (loc_move rfl) rfl ?_
    refine run_op (loc_move rfl) rfl ?_
    first | refine run_op (loc_add rfl rfl (by first | omega | assumption)) rfl ?_ | refine run_op (loc_addW rfl rfl) rfl ?_
    refine run_op (loc_build (.one rfl rfl rfl (.one rfl rfl rfl (.nil)))) rfl ?_
    refine run_op (loc_buildSlice rfl rfl (.agg rfl (.nil)) rfl rfl) rfl ?_
    refine run_append1 (e0 := prs q.2) rfl (.here) rfl (by rfl) (by rfl) (by first | omega | (unfold lenMax; omega) | assumption | (simp; omega) | (simp [lenMax]; omega)) (by first | omega | (unfold lenMax; omega) | assumption | (simp; omega) | (simp [lenMax]; omega)) rfl (fun v3 => ?_)
    refine run_op (loc_assign rfl) rfl ?_
    refine run_nil ?_
    refine run_inBlock ?_
    refine run_region ?_
    refine run_op (loc_move rfl) rfl ?_
    first | refine run_op (loc_add rfl rfl (by first | omega | assumption)) rfl ?_ | refine run_op (loc_addW rfl rfl) rfl ?_
    refine run_op (loc_assign rfl) rfl ?_
    refine run_nil ?_
    exact run_againF ih1 ((v3, q.2 + 1)) (by simp only; omega) (by simp only; omega) (.cons rfl (by first | exact fun _ _ h => h | exact d_int (by omega) | exact d_int (by simp) | exact d_intN (by omega) | exact d_any) (.cons rfl (d_int (by simp only; omega)) .nil)) (.nil) (by simp only [appR]; rw [prs_snoc])
  ·
    refine run_exit rfl ?_
    refine run_seq ?_
    refine run_freezeRow (s := 1) rfl (.here) ?_
    refine run_region ?_
    refine run_op (loc_move rfl) rfl ?_
    refine run_op (loc_assign rfl) rfl ?_
    refine run_nil ?_
    refine run_retP Try.func22 rfl rfl ?_
    exact d_sl (by rw [show q.2 = 10 by omega]; rfl)

theorem number_spec (n : Int) : SpecP Try.prog 82 [dInt .i64 n] (dB (1 ≤ n ∧ n < 2147483647)) := by
  refine specP_of_body Try.func82 rfl rfl (fun I M => ?_)
  refine run_seq ?_
  refine run_region ?_
  refine run_op (loc_assign rfl) rfl ?_
  refine run_nil ?_
  refine run_seq ?_
  refine run_region ?_
  refine run_op (loc_move rfl) rfl ?_
  refine run_op (loc_geq rfl rfl) rfl ?_
  refine run_op (loc_move rfl) rfl ?_
  refine run_gfirst rfl rfl (by first | exact guard_true _ | exact guard_false _ | exact guard_if (guard_true _) | exact guard_if (guard_false _)) (fun hg => loc_move rfl) rfl ?_
  refine run_gop rfl rfl (by first | exact guard_true _ | exact guard_false _ | exact guard_if (guard_true _) | exact guard_if (guard_false _)) (fun hg => loc_lss rfl rfl) rfl ?_
  refine run_gleave ?_
  refine run_op (loc_and rfl rfl) rfl ?_
  refine run_op (loc_assign rfl) rfl ?_
  refine run_nil ?_
  refine run_retP Try.func82 rfl rfl ?_
  exact fun _ _ h => h

theorem pcheck22_spec  : SpecP Try.prog 81 [dSl 2 cPsn peopleL] (dInt .i64 0) := by
  have hpl := people_len
  refine specP_of_body Try.func81 rfl rfl (fun I M => ?_)
  refine run_seq ?_
  refine run_region ?_
  refine run_op (loc_assign rfl) rfl ?_
  refine run_nil ?_
  refine run_seq ?_
  refine run_seq ?_
  refine run_region ?_
  refine run_op (loc_move rfl) rfl ?_
  first | refine runL_fact (s := 7) rfl (fun _ _ h => dSl_len h) (fun hlen1 => ?_) | skip
  refine run_op (loc_len rfl) rfl ?_
  refine run_op (loc_gtr rfl rfl) rfl ?_
  refine run_nil ?_
  refine run_cond rfl (fun h2 => ?_) (fun h2 => ?_)
  · exfalso; omega
  ·
    refine run_skip ?_
    refine run_seq ?_
    refine run_seq ?_
    refine run_region ?_
    refine run_op (loc_move rfl) rfl ?_
    first | refine runL_fact (s := 10) rfl (fun _ _ h => dSl_len h) (fun hlen3 => ?_) | skip
    refine run_op (loc_len rfl) rfl ?_
    refine run_op (loc_move rfl) rfl ?_
    refine run_nil ?_
    refine run_block ?_
    refine run_loopC (σ := Nat) (ks := [0, 10, 11]) (.cons rfl (.cons rfl (.cons rfl (.nil)))) (fun k => [(12, dInt .i64 (k : Nat))]) (fun k => k ≤ peopleL.length) (fun k => peopleL.length - k) (0) ((by omega)) (.cons rfl (by first | exact fun _ _ h => h | exact d_int (by omega) | exact d_int (by simp) | exact d_intN (by omega) | exact d_any) .nil) ?_
    intro k hk ih4
    refine run_seq ?_
    refine run_region ?_
    refine run_op (loc_lss rfl rfl) rfl ?_
    refine run_nil ?_
    refine run_seq ?_
    refine run_cond rfl (fun h5 => ?_) (fun h5 => ?_)
    ·
      have hk0 := people_get (k := k) (by omega)
      have hk1 : (peopleL[k]?.getD default).id = (k : Int) + 1 := by rw [hk0]; rfl
      have hk2 : (peopleL[k]?.getD default).secret = 1000 + ((k : Int) + 1) := by rw [hk0]; rfl
      have hkm : 0 < k → (peopleL[((k : Int) - 1).toNat]?.getD default).id = (k : Int) := fun h => by rw [show ((k : Int) - 1).toNat = k - 1 by omega, people_get (by omega)]; show ((k - 1 : Nat) : Int) + 1 = k; omega
      refine run_skip ?_
      refine run_seq ?_
      refine run_block ?_
      refine run_seq ?_
      refine run_region ?_
      refine run_op (loc_move rfl) rfl ?_
      first | refine run_op (loc_index rfl rfl (by first | omega | assumption)) rfl ?_ | refine run_op (loc_indexI rfl rfl (by first | omega | assumption)) rfl ?_
      refine run_op (loc_loadN rfl rfl) rfl ?_
      refine run_new (loc_allocOwn (by simp)) rfl (fun b6 _ => ?_)
      refine run_op (loc_assign rfl) rfl ?_
      refine run_storeN (ho := (by show OneAll [_, _]; infer_instance)) rfl rfl (.here) (by rfl) ?_
      refine run_nil ?_
      refine run_seq ?_
      refine run_seq ?_
      refine run_region ?_
      refine run_op (loc_fieldAddrOwn rfl) rfl ?_
      refine run_op (loc_loadOwn1 rfl (.here) (by rfl)) rfl ?_
      refine run_op (loc_call (number_spec _) rfl) rfl ?_
      refine run_op (loc_not rfl) rfl ?_
      refine run_op (loc_move rfl) rfl ?_
      refine run_gfirst rfl rfl (by first | exact guard_true _ | exact guard_false _ | exact guard_if (guard_true _) | exact guard_if (guard_false _)) (fun hg => loc_fieldAddrOwn rfl) rfl ?_
      refine run_gop rfl rfl (by first | exact guard_true _ | exact guard_false _ | exact guard_if (guard_true _) | exact guard_if (guard_false _)) (fun hg => loc_loadOwn1 rfl (.here) (by rfl)) rfl ?_
      refine run_gop rfl rfl (by first | exact guard_true _ | exact guard_false _ | exact guard_if (guard_true _) | exact guard_if (guard_false _)) (fun hg => loc_call (number_spec _) rfl) rfl ?_
      refine run_gop rfl rfl (by first | exact guard_true _ | exact guard_false _ | exact guard_if (guard_true _) | exact guard_if (guard_false _)) (fun hg => loc_not rfl) rfl ?_
      refine run_gleave ?_
      refine run_op (loc_or rfl rfl) rfl ?_
      refine run_nil ?_
      refine run_cond rfl (fun h7 => ?_) (fun h7 => ?_)
      · exfalso; omega
      ·
        refine run_skip ?_
        refine run_seq ?_
        refine run_seq ?_
        refine dr_start _ (.none) [⟨[(3, none)], [], none⟩,
            ⟨[(27, some (0, false))], [0], none⟩,
            ⟨[(28, some (1, false))], [0, 1], none⟩,
            ⟨[(4, none)], [0, 1, 2], none⟩,
            ⟨[(30, some (3, true))], [0, 1, 2, 3], some (0, 0, false)⟩,
            ⟨[(0, none)], [0, 1, 2], none⟩,
            ⟨[(3, none)], [0, 1, 2], none⟩,
            ⟨[(33, some (6, true))], [0, 1, 2, 6], none⟩,
            ⟨[(32, some (5, true)), (34, some (7, true))], [0, 1, 2, 5, 6, 7], none⟩,
            ⟨[(35, some (8, true))], [0, 1, 2, 5, 6, 7, 8], none⟩,
            ⟨[(36, some (9, true))], [0, 1, 2, 5, 6, 7, 8, 9], none⟩,
            ⟨[(31, some (4, true)), (37, some (10, true))], [0, 1, 2, 3, 4, 5, 6, 7, 8, 9, 10], none⟩,
            ⟨[(29, some (2, false)), (38, some (11, false))], [0, 1, 2, 3, 4, 5, 6, 7, 8, 9, 10, 11], none⟩] [_] _ rfl rfl ?_
        refine dq_pure rfl (fun s => .g rfl (.nil)) (fun s hs _ => loc_move rfl) (by exact .nil) ?_
        refine dq_pure rfl (fun s => .op rfl (.nil)) (fun s hs _ => loc_gtr rfl rfl) (by exact .nil) ?_
        refine dq_pure rfl (fun s => .op rfl (.nil)) (fun s hs _ => loc_move rfl) (by exact .nil) ?_
        refine dq_gpure rfl (fun s => .g rfl (.nil)) rfl (fun _ => by first | exact guard_true _ | exact guard_false _ | exact guard_if (guard_true _) | exact guard_if (guard_false _)) (fun s hs hg _ => loc_fieldAddrOwn rfl) (by exact .nil) ?_
        refine dq_gread rfl (fun s => .opU rfl (.nil)) rfl rfl rfl (fun _ => by first | exact guard_true _ | exact guard_false _ | exact guard_if (guard_true _) | exact guard_if (guard_false _)) (fun s hs hg _ hm => loc_loadOwn1 rfl hm (by rfl)) (by exact .nil) ?_
        refine dq_gpure rfl (fun s => .g rfl (.nil)) rfl (fun _ => by first | exact guard_true _ | exact guard_false _ | exact guard_if (guard_true _) | exact guard_if (guard_false _)) (fun s hs hg _ => loc_move rfl) (by exact .nil) ?_
        refine dq_gpure rfl (fun s => .g rfl (.nil)) rfl (fun _ => by first | exact guard_true _ | exact guard_false _ | exact guard_if (guard_true _) | exact guard_if (guard_false _)) (fun s hs hg _ => loc_move rfl) (by exact .nil) ?_
        first | refine dq_gpure rfl (fun s => .opU rfl (.nil)) rfl (fun _ => by first | exact guard_true _ | exact guard_false _ | exact guard_if (guard_true _) | exact guard_if (guard_false _)) (fun s hs hg _ => loc_sub rfl rfl (by first | omega | assumption)) (by exact .nil) ?_ | refine dq_gpure rfl (fun s => .opU rfl (.nil)) rfl (fun _ => by first | exact guard_true _ | exact guard_false _ | exact guard_if (guard_true _) | exact guard_if (guard_false _)) (fun s hs hg _ => loc_subW rfl rfl) (by exact .nil) ?_
        first | refine dq_gpure rfl (fun s => .opU rfl (.opU rfl (.nil))) rfl (fun _ => by first | exact guard_true _ | exact guard_false _ | exact guard_if (guard_true _) | exact guard_if (guard_false _)) (fun s hs hg _ => loc_index rfl rfl (by first | omega | assumption)) (by exact .nil) ?_ | refine dq_gpure rfl (fun s => .opU rfl (.opU rfl (.nil))) rfl (fun _ => by first | exact guard_true _ | exact guard_false _ | exact guard_if (guard_true _) | exact guard_if (guard_false _)) (fun s hs hg _ => loc_indexI rfl rfl (by first | omega | assumption)) (by exact .nil) ?_
        refine dq_gpure rfl (fun s => .opU rfl (.nil)) rfl (fun _ => by first | exact guard_true _ | exact guard_false _ | exact guard_if (guard_true _) | exact guard_if (guard_false _)) (fun s hs hg _ => loc_fieldAddr rfl) (by exact .nil) ?_
        refine dq_gpure rfl (fun s => .opU rfl (.nil)) rfl (fun _ => by first | exact guard_true _ | exact guard_false _ | exact guard_if (guard_true _) | exact guard_if (guard_false _)) (fun s hs hg _ => loc_load1 rfl) (by exact .nil) ?_
        refine dq_gpure rfl (fun s => .opU rfl (.opU rfl (.nil))) rfl (fun _ => by first | exact guard_true _ | exact guard_false _ | exact guard_if (guard_true _) | exact guard_if (guard_false _)) (fun s hs hg _ => loc_leq rfl rfl) (by exact .nil) ?_
        refine dq_pure rfl (fun s => .op rfl (.op rfl (.nil))) (fun s hs _ => loc_and rfl rfl) (by exact .nil) ?_
        refine dq_end (rs := [_]) () rfl (fun _ => rfl) (.nil) rfl (fun _ _ => ?_)
        dsimp only [outG, outM, List.map, List.set, id]
        refine run_cond rfl (fun h8 => ?_) (fun h8 => ?_)
        · exfalso; have h5 := h8; have h6 := hkm (by omega); omega
        ·
          refine run_skip ?_
          refine run_seq ?_
          refine run_region ?_
          refine run_op (loc_move rfl) rfl ?_
          refine run_op (loc_move rfl) rfl ?_
          refine run_op (loc_sliceTo rfl rfl (by first | omega | assumption)) rfl ?_
          first | refine runL_fact (s := 42) rfl (fun _ _ h => dSl_len h) (fun hlen9 => ?_) | skip
          refine run_op (loc_len rfl) rfl ?_
          refine run_op (loc_move rfl) rfl ?_
          refine run_nil ?_
          have htl : (peopleL.take ((k : Nat) : Int).toNat).length = k := by rw [List.length_take]; omega
          refine run_block ?_
          refine run_loopC (σ := Nat) (ks := [0, 4, 10, 11, 12, 42, 43]) (.cons rfl (.cons rfl (.cons rfl (.cons rfl (.cons rfl (.cons rfl (.cons rfl (.nil)))))))) (fun u => [(44, dInt .i64 (u : Nat))]) (fun u => u ≤ (peopleL.take ((k : Nat) : Int).toNat).length) (fun u => (peopleL.take ((k : Nat) : Int).toNat).length - u) (0) ((by omega)) (.cons rfl (by first | exact fun _ _ h => h | exact d_int (by omega) | exact d_int (by simp) | exact d_intN (by omega) | exact d_any) .nil) ?_
          intro u hu ih10
          refine run_seq ?_
          refine run_region ?_
          refine run_op (loc_lss rfl rfl) rfl ?_
          refine run_nil ?_
          refine run_seq ?_
          refine run_cond rfl (fun h11 => ?_) (fun h11 => ?_)
          ·
            have hu0 : (peopleL.take ((k : Nat) : Int).toNat)[u]?.getD default = prs u := people_take (k := k) (i := u) (by omega) (by omega)
            have hu1 : ((peopleL.take ((k : Nat) : Int).toNat)[u]?.getD default).secret = 1000 + ((u : Int) + 1) := by rw [hu0]; rfl
            refine run_skip ?_
            refine run_seq ?_
            refine run_block ?_
            refine run_seq ?_
            refine run_region ?_
            first | refine run_op (loc_index rfl rfl (by first | omega | assumption)) rfl ?_ | refine run_op (loc_indexI rfl rfl (by first | omega | assumption)) rfl ?_
            refine run_op (loc_loadN rfl rfl) rfl ?_
            refine run_new (loc_allocOwn (by simp)) rfl (fun b12 _ => ?_)
            refine run_storeN (ho := (by show OneAll [_, _]; infer_instance)) rfl rfl (.here) (by rfl) ?_
            refine run_nil ?_
            refine run_seq ?_
            refine run_region ?_
            refine run_op (loc_fieldAddrOwn rfl) rfl ?_
            refine run_op (loc_loadOwn1 rfl (.here) (by rfl)) rfl ?_
            refine run_op (loc_fieldAddrOwn rfl) rfl ?_
            refine run_op (loc_loadOwn1 rfl (.there (.here)) (by rfl)) rfl ?_
            refine run_op (loc_eql rfl rfl) rfl ?_
            refine run_nil ?_
            refine run_cond rfl (fun h13 => ?_) (fun h13 => ?_)
            · exfalso; omega
            ·
              refine run_skip ?_
              refine run_inBlock ?_
              refine run_region ?_
              first | refine run_op (loc_add rfl rfl (by first | omega | assumption)) rfl ?_ | refine run_op (loc_addW rfl rfl) rfl ?_
              refine run_op (loc_move rfl) rfl ?_
              refine run_nil ?_
              refine run_drop (.cons _ (.refl _)) ?_
              exact run_againC ih10 (u + 1) (by omega) (by omega) (.cons rfl (by first | exact fun _ _ h => h | exact d_int (by omega) | exact d_int (by simp) | exact d_intN (by omega) | exact d_any) .nil) (.cons rfl (fun _ _ x => x) (.cons rfl (fun _ _ x => x) (.cons rfl (fun _ _ x => x) (.cons rfl (fun _ _ x => x) (.cons rfl (fun _ _ x => x) (.cons rfl (fun _ _ x => x) (.cons rfl (fun _ _ x => x) (.nil))))))))
          ·
            refine run_exit rfl ?_
            refine run_inBlock ?_
            refine run_region ?_
            first | refine run_op (loc_add rfl rfl (by first | omega | assumption)) rfl ?_ | refine run_op (loc_addW rfl rfl) rfl ?_
            refine run_op (loc_move rfl) rfl ?_
            refine run_nil ?_
            refine run_drop (.cons _ (.refl _)) ?_
            exact run_againC ih4 (k + 1) (by omega) (by omega) (.cons rfl (by first | exact fun _ _ h => h | exact d_int (by omega) | exact d_int (by simp) | exact d_intN (by omega) | exact d_any) .nil) (.cons rfl (fun _ _ x => x) (.cons rfl (fun _ _ x => x) (.cons rfl (fun _ _ x => x) (.nil))))
    ·
      refine run_exit rfl ?_
      refine run_seq ?_
      refine run_region ?_
      refine run_op (loc_assign rfl) rfl ?_
      refine run_nil ?_
      refine run_retP Try.func81 rfl rfl ?_
      exact d_int rfl

theorem find22_spec (id : Int) (hid : 1 ≤ id ∧ id ≤ 10) : SpecP Try.prog 48 [dSl 2 cPsn peopleL, dInt .i64 id] (dTup [dPsn ⟨id, 1000 + id⟩, dB True]) := by
  have hpl := people_len
  refine specP_of_body Try.func48 rfl rfl (fun I M => ?_)
  refine run_seq ?_
  refine run_region ?_
  refine run_new (loc_allocOwn (by simp)) rfl (fun b1 _ => ?_)
  refine run_op (loc_assign rfl) rfl ?_
  refine run_nil ?_
  refine run_seq ?_
  refine run_seq ?_
  refine run_region ?_
  refine run_op (loc_move rfl) rfl ?_
  refine run_op (loc_call (pcheck22_spec) rfl) rfl ?_
  refine run_op (loc_neq rfl rfl) rfl ?_
  refine run_nil ?_
  refine run_cond rfl (fun h2 => ?_) (fun h2 => ?_)
  · exfalso; exact h2 rfl
  ·
    refine run_skip ?_
    refine run_seq ?_
    refine run_seq ?_
    refine run_region ?_
    refine run_op (loc_move rfl) rfl ?_
    first | refine runL_fact (s := 12) rfl (fun _ _ h => dSl_len h) (fun hlen3 => ?_) | skip
    refine run_op (loc_len rfl) rfl ?_
    refine run_op (loc_move rfl) rfl ?_
    refine run_nil ?_
    refine run_block ?_
    refine run_loopC (σ := Nat) (ks := [1, 4, 12, 13]) (.cons rfl (.cons rfl (.cons rfl (.cons rfl (.nil))))) (fun k => [(14, dInt .i64 (k : Nat))]) (fun k => k ≤ peopleL.length ∧ (∀ j : Nat, j < k → (j : Int) + 1 ≠ id)) (fun k => peopleL.length - k) (0) (⟨by omega, fun j hj => by omega⟩) (.cons rfl (by first | exact fun _ _ h => h | exact d_int (by omega) | exact d_int (by simp) | exact d_intN (by omega) | exact d_any) .nil) ?_
    rintro k ⟨hk, hbk⟩ ih4
    refine run_seq ?_
    refine run_region ?_
    refine run_op (loc_lss rfl rfl) rfl ?_
    refine run_nil ?_
    refine run_seq ?_
    refine run_cond rfl (fun h5 => ?_) (fun h5 => ?_)
    ·
      have hk0 := people_get (k := k) (by omega)
      have hk1 : (peopleL[k]?.getD default).id = (k : Int) + 1 := by rw [hk0]; rfl
      have hk2 : (peopleL[k]?.getD default).secret = 1000 + ((k : Int) + 1) := by rw [hk0]; rfl
      refine run_skip ?_
      refine run_seq ?_
      refine run_block ?_
      refine run_seq ?_
      refine run_region ?_
      first | refine run_op (loc_index rfl rfl (by first | omega | assumption)) rfl ?_ | refine run_op (loc_indexI rfl rfl (by first | omega | assumption)) rfl ?_
      refine run_op (loc_loadN rfl rfl) rfl ?_
      refine run_new (loc_allocOwn (by simp)) rfl (fun b6 _ => ?_)
      refine run_storeN (ho := (by show OneAll [_, _]; infer_instance)) rfl rfl (.here) (by rfl) ?_
      refine run_nil ?_
      refine run_seq ?_
      refine run_region ?_
      refine run_op (loc_fieldAddrOwn rfl) rfl ?_
      refine run_op (loc_loadOwn1 rfl (.here) (by rfl)) rfl ?_
      refine run_op (loc_move rfl) rfl ?_
      refine run_op (loc_eql rfl rfl) rfl ?_
      refine run_nil ?_
      refine run_cond rfl (fun h7 => ?_) (fun h7 => ?_)
      ·
        refine run_seq ?_
        refine run_region ?_
        refine run_op (loc_loadOwnN rfl (.here) (by rfl)) rfl ?_
        refine run_storeN (ho := (by show OneAll [_, _]; infer_instance)) rfl rfl (.there (.here)) (by rfl) ?_
        refine run_op (loc_assign rfl) rfl ?_
        refine run_nil ?_
        refine run_retGP Try.func48 rfl (.cellN rfl (by first | exact .here | exact .there .here | exact .there (.there .here) | exact .there (.there (.there .here)) | exact .there (.there (.there (.there .here))) | exact .there (.there (.there (.there (.there .here))))) (by rfl) (.tmp rfl (.nil))) ?_ (fun _ _ h => inv_tail (inv_tail (h)))
        exact d_tup2 (d_aggU (.cons (d_int (by show _ = id; omega)) (.cons (d_int (by show _ = 1000 + id; omega)) .nil))) (d_B Iff.rfl)
      ·
        refine run_skip ?_
        refine run_inBlock ?_
        refine run_region ?_
        first | refine run_op (loc_add rfl rfl (by first | omega | assumption)) rfl ?_ | refine run_op (loc_addW rfl rfl) rfl ?_
        refine run_op (loc_move rfl) rfl ?_
        refine run_nil ?_
        refine run_drop (.cons _ (.refl _)) ?_
        exact run_againC ih4 (k + 1) (⟨by omega, fun j hj => by by_cases e : j = k; (· subst e; omega); (· exact hbk j (by omega))⟩) (by omega) (.cons rfl (by first | exact fun _ _ h => h | exact d_int (by omega) | exact d_int (by simp) | exact d_intN (by omega) | exact d_any) .nil) (.cons rfl (fun _ _ x => x) (.cons rfl (fun _ _ x => x) (.cons rfl (fun _ _ x => x) (.cons rfl (fun _ _ x => x) (.nil)))))
    ·
      refine run_exit rfl ?_
      refine run_seq ?_
      refine run_region ?_
      refine run_op (loc_build (.nil)) rfl ?_
      refine run_storeN (ho := (by show OneAll [_, _]; infer_instance)) rfl rfl (.here) (by rfl) ?_
      refine run_op (loc_assign rfl) rfl ?_
      refine run_nil ?_
      refine run_retGP Try.func48 rfl (.cellN rfl (by first | exact .here | exact .there .here | exact .there (.there .here) | exact .there (.there (.there .here)) | exact .there (.there (.there (.there .here))) | exact .there (.there (.there (.there (.there .here))))) (by rfl) (.tmp rfl (.nil))) ?_ (fun _ _ h => inv_tail (h))
      exfalso
      exact hbk (id - 1).toNat (by omega) (by omega)

theorem rsign_spec (s : Int) (l : List Int) : SpecP Try.prog 49 [dInt .i64 s, dInts l] (dTup [dInt .i64 (signM s l), dInt .i64 (signE s l)]) := by
  refine specP_of_body Try.func49 rfl rfl (fun I M => ?_)
  refine run_seq ?_
  refine run_region ?_
  refine run_op (loc_assign rfl) rfl ?_
  refine run_op (loc_assign rfl) rfl ?_
  refine run_nil ?_
  refine run_seq ?_
  refine run_seq ?_
  refine run_region ?_
  refine run_op (loc_move rfl) rfl ?_
  refine run_op (loc_call (number_spec _) rfl) rfl ?_
  refine run_op (loc_not rfl) rfl ?_
  refine run_nil ?_
  refine run_cond rfl (fun h1 => ?_) (fun h1 => ?_)
  ·
    have hE : signE s l = 1 := by unfold signE; rw [if_pos h1]
    refine run_seq ?_
    refine run_region ?_
    refine run_op (loc_assign rfl) rfl ?_
    refine run_op (loc_assign rfl) rfl ?_
    refine run_nil ?_
    refine run_ret2P Try.func49 rfl rfl rfl ?_
    exact d_tup2 (d_int (by unfold signM; rw [if_neg (by omega)])) (d_int hE.symm)
  ·
    have c1 := Classical.not_not.1 h1
    refine run_skip ?_
    refine run_seq ?_
    refine run_seq ?_
    refine run_region ?_
    refine run_op (loc_move rfl) rfl ?_
    first | refine runL_fact (s := 9) rfl (fun _ _ h => dSl_len h) (fun hlen2 => ?_) | skip
    refine run_op (loc_len rfl) rfl ?_
    refine run_op (loc_gtr rfl rfl) rfl ?_
    refine run_nil ?_
    refine run_cond rfl (fun h3 => ?_) (fun h3 => ?_)
    ·
      have hE : signE s l = 4 := by unfold signE; rw [if_neg (Classical.not_not.2 c1), if_pos (by omega)]
      refine run_seq ?_
      refine run_region ?_
      refine run_op (loc_assign rfl) rfl ?_
      refine run_op (loc_assign rfl) rfl ?_
      refine run_nil ?_
      refine run_ret2P Try.func49 rfl rfl rfl ?_
      exact d_tup2 (d_int (by unfold signM; rw [if_neg (by omega)])) (d_int hE.symm)
    ·
      have hE : signE s l = 0 := by unfold signE; rw [if_neg (Classical.not_not.2 c1), if_neg (by omega)]
      refine run_skip ?_
      refine run_seq ?_
      refine run_region ?_
      refine run_op (loc_move rfl) rfl ?_
      refine run_new (loc_buildOwn (f' := fI) (xs := [s]) rfl rfl (.one rfl (.nil)) rfl rfl rfl) rfl (fun b4 _ => ?_)
      refine run_op (loc_move rfl) rfl ?_
      refine run_upd (LocM.frz (loc_append rfl rfl rfl (by first | omega | (unfold lenMax; omega) | assumption | (simp; omega) | (simp [lenMax]; omega)) (by first | omega | (unfold lenMax; omega) | assumption | (simp; omega) | (simp [lenMax]; omega))) rfl) rfl (.here) (fun v5 hv5 => ?_)
      refine run_op (loc_call (rrow_spec _) rfl) rfl ?_
      refine run_op (loc_assign rfl) rfl ?_
      refine run_op (loc_assign rfl) rfl ?_
      refine run_nil ?_
      refine run_drop (.cons _ (.refl _)) ?_
      refine run_ret2P Try.func49 rfl rfl rfl ?_
      exact d_tup2 (d_int (by unfold signM; rw [if_pos hE]; rfl)) (d_int hE.symm)

theorem verify22_spec (id : Int) (l : List Int) (m : Int) (hid : 1 ≤ id ∧ id ≤ 10) : SpecP Try.prog 24 [dSl 2 cPsn peopleL, dInt .i64 id, dInts l, dInt .i64 m] (dB (signE (1000 + id) l = 0 ∧ signM (1000 + id) l = m)) := by
  refine specP_of_body Try.func24 rfl rfl (fun I M => ?_)
  refine run_seq ?_
  refine run_region ?_
  refine run_op (loc_assign rfl) rfl ?_
  refine run_nil ?_
  refine run_seq ?_
  refine run_region ?_
  refine run_op (loc_move rfl) rfl ?_
  refine run_op (loc_move rfl) rfl ?_
  refine run_op (loc_call (find22_spec id hid) rfl) rfl ?_
  refine run_op (loc_move rfl) rfl ?_
  refine run_op (loc_extract rfl rfl) rfl ?_
  refine run_op (loc_extract rfl rfl) rfl ?_
  refine run_new (loc_allocOwn (by simp)) rfl (fun b1 _ => ?_)
  refine run_storeN (ho := (by show OneAll [_, _]; infer_instance)) rfl rfl (.here) (by rfl) ?_
  refine run_op (loc_assign rfl) rfl ?_
  refine run_nil ?_
  refine run_seq ?_
  refine run_seq ?_
  refine run_region ?_
  refine run_op (loc_move rfl) rfl ?_
  refine run_op (loc_not rfl) rfl ?_
  refine run_nil ?_
  refine run_cond rfl (fun h2 => ?_) (fun h2 => ?_)
  · exfalso; exact h2 trivial
  ·
    refine run_skip ?_
    refine run_seq ?_
    refine run_region ?_
    refine run_op (loc_fieldAddrOwn rfl) rfl ?_
    refine run_op (loc_loadOwn1 rfl (.here) (by rfl)) rfl ?_
    refine run_op (loc_move rfl) rfl ?_
    refine run_op (loc_call (rsign_spec _ _) rfl) rfl ?_
    refine run_op (loc_move rfl) rfl ?_
    refine run_op (loc_extract rfl rfl) rfl ?_
    refine run_op (loc_extract rfl rfl) rfl ?_
    refine run_op (loc_assign rfl) rfl ?_
    refine run_op (loc_assign rfl) rfl ?_
    refine run_nil ?_
    refine run_seq ?_
    refine run_region ?_
    refine run_op (loc_move rfl) rfl ?_
    refine run_op (loc_eql rfl rfl) rfl ?_
    refine run_op (loc_move rfl) rfl ?_
    refine run_gfirst rfl rfl (by first | exact guard_true _ | exact guard_false _ | exact guard_if (guard_true _) | exact guard_if (guard_false _)) (fun hg => loc_move rfl) rfl ?_
    refine run_gop rfl rfl (by first | exact guard_true _ | exact guard_false _ | exact guard_if (guard_true _) | exact guard_if (guard_false _)) (fun hg => loc_move rfl) rfl ?_
    refine run_gop rfl rfl (by first | exact guard_true _ | exact guard_false _ | exact guard_if (guard_true _) | exact guard_if (guard_false _)) (fun hg => loc_eql rfl rfl) rfl ?_
    refine run_gleave ?_
    refine run_op (loc_and rfl rfl) rfl ?_
    refine run_op (loc_assign rfl) rfl ?_
    refine run_nil ?_
    refine run_drop (.cons _ (.refl _)) ?_
    refine run_retP Try.func24 rfl rfl ?_
    exact fun _ _ h => h

end Go.Q
