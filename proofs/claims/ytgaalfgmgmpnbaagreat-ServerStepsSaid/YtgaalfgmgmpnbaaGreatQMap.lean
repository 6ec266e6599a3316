/- The lowest bit; the lesser of two: what is proved here holds of every program. -/
import Derived.Test.YtgaalfgmgmpnbaaGreatQRound
import Derived.Test.YtgaalfgmgmpnbaaGreatQApi2
import Derived.MapKept
set_option linter.unusedVariables false
set_option linter.unusedSimpArgs false
namespace Go.Q
variable {P : Program} {N : Nat} {g : G} {M : List Res}
variable {dst : Option Tmp} {ty : TypeId} {pos : String} {after : Array Edge} {gd : Option (Nat × Bool)} {x y : Operand} {t t' : TypeId} {m n : Int}
theorem loc_and1 (hx : opd g x = some (dInt .i64 m)) (hy : opd g y = some (dInt .i64 1)) (h : 0 ≤ m ∧ m < 9223372036854775808) : LocP P ⟨dst, .binOp .and t x y t', ty, pos, after, gd⟩ g N M (dInt .i64 (m % 2)) :=
 locP_of_run fun I a w hs _ => by
  refine ⟨_, run_binOp_int (opd_sound hs hx) (opd_sound hs hy) (by simp [binOp, Op.intBits]; rfl), ?_⟩
  obtain ⟨c, rfl⟩ := Int.eq_ofNat_of_zero_le h.1
  have e1 : (BitVec.ofInt 64 (c : Int)).toNat = c := by rw [BitVec.toNat_ofInt]; omega
  have e2 : (BitVec.ofInt 64 (1 : Int)).toNat = 1 := by decide
  show Value.int .i64 (IntKind.i64.wrap ((BitVec.ofInt 64 (c : Int) &&& BitVec.ofInt 64 1).toNat : Nat)) = _
  rw [BitVec.toNat_and, e1, e2, Nat.and_one_is_mod, IntWalk.i64_in _ (by omega)]
  congr 1
theorem loc_min (hx : opd g x = some (dInt .i64 m)) (hy : opd g y = some (dInt .i64 n)) : LocP P ⟨dst, .call ⟨.builtin .min, #[x, y], #[t, t']⟩, ty, pos, after, gd⟩ g N M (dInt .i64 (min m n)) :=
 locP_of_run fun I a w hs _ => by
  have h1 := opd_sound hs hx
  have h2 := opd_sound hs hy
  refine ⟨.int .i64 (min m n), ?_, rfl⟩
  simp [execOp, resolve, invoke, builtin, show a.eval x = .int .i64 m from h1, show a.eval y = .int .i64 n from h2, run_min_int2]
  rw [Int.min_def]
  split <;> split <;> first | rfl | omega | (congr 1; omega)
theorem loc_max (hx : opd g x = some (dInt .i64 m)) (hy : opd g y = some (dInt .i64 n)) : LocP P ⟨dst, .call ⟨.builtin .max, #[x, y], #[t, t']⟩, ty, pos, after, gd⟩ g N M (dInt .i64 (max m n)) :=
 locP_of_run fun I a w hs _ => by
  have h1 := opd_sound hs hx
  have h2 := opd_sound hs hy
  refine ⟨.int .i64 (max m n), ?_, rfl⟩
  simp [execOp, resolve, invoke, builtin, show a.eval x = .int .i64 m from h1, show a.eval y = .int .i64 n from h2, run_max_int2]
  rw [Int.max_def]
  split <;> split <;> first | rfl | omega | (congr 1; omega)
section
variable {dst : Option Tmp}
theorem loc_buildOwn {t e : TypeId} [ht : TySl P t e] {bytes n : Nat} {z : Value} {agg : Bool} [hz : TyZ P e bytes z] [hv : TyV P e agg n] {len : Nat} {α : Type} {f' : α → List D} {xs : List α} {ps : List (Nat × Operand)} {lls : List (List D)}
  (hps : ps = ((ps.map (·.2)).zipIdx 0).map fun p => (p.2, p.1)) (hlen : ps.length = len) (hp : Parts g (ps.map (·.2)) lls) (hx : lls = xs.map f') (hn : (lls.all fun l => Nat.beq l.length n) = true) (hbig : (Nat.ble (len * n) 16777216 && Nat.ble len 16777216) = true) :
  LocM P ⟨dst, .buildSlice t len ps.toArray, ty, pos, after, gd⟩ g N [] (fun _ : Nat => True) (fun b => dVal (.slice (some ⟨b, 0, none⟩) len len)) (fun b => [rRow (.slice (some ⟨b, 0, none⟩) len len) e n f' xs]) := by
  constructor
  intro F I a w K Q hs hi hK
  obtain ⟨css, h1, h2, h3⟩ := hp.vals hs
  obtain ⟨i, hin, hiz, his, hib⟩ := info_of_z hz hv
  simp only [Bool.and_eq_true] at hbig
  have hlm := Nat.le_of_ble_eq_true hbig.2
  have hlls : ∀ l ∈ lls, l.length = n := fun l hl => Nat.eq_of_beq_eq_true (List.all_eq_true.1 hn l hl)
  have hcs : ∀ cs ∈ css, cs.length = n := by
   intro cs hcs
   obtain ⟨j, hj⟩ := List.getElem?_of_mem hcs
   have hjl : j < lls.length := by rw [← h1]; exact (List.getElem?_eq_some_iff.1 hj).1
   obtain ⟨cs', h4, h5⟩ := h3 j lls[j] (by simp [hjl])
   rw [hj] at h4
   injection h4 with h4
   subst h4
   rw [← relL_length h5]
   exact hlls _ (List.getElem_mem ..)
  have hcl : css.length = len := by rw [← h2]; simp [hlen]
  let vs := (ps.map (·.2)).map a.eval
  have hvs : ∀ v ∈ vs, v.cells.size = n := by
   intro v hv
   obtain ⟨x, hx, rfl⟩ := List.mem_map.1 hv
   have := hcs ((a.eval x).cells.toList) (by rw [← h2]; exact List.mem_map.2 ⟨x, hx, rfl⟩)
   simpa using this
  let ar : Array Value := (Array.range (len * n)).map ((if len * n = 0 then #[] else z.cells)[· % (if len * n = 0 then #[] else z.cells).size]!)
  have hars : ar.size = len * n := by simp [ar]
  obtain ⟨ar', hf, hr⟩ := run_fill vs 0 ar hvs (by rw [hars]; simp [vs, hlen])
  have hal : ar'.toList = css.flatten := by
   rw [hr]
   simp only [Nat.zero_mul, List.take_zero, List.nil_append, Nat.zero_add]
   have hvl : vs.length = len := by simp [vs, hlen]
   rw [hvl, List.drop_eq_nil_of_le (by simp [hars]), List.append_nil, ← h2]
   simp [vs, List.flatMap, List.map_map, Function.comp_def]
  have hrun : (execOp a.eval ⟨dst, .buildSlice t len ps.toArray, ty, pos, after, gd⟩).run P w = .ok (.value (.slice (some ⟨w.heap.size, 0, none⟩) len len)) (w.alloc (.cells ar' e)) := by
   have hmap : (ps.toArray.map fun (p : Nat × Operand) => (p.1, a.eval p.2)).toList = (vs.zipIdx 0).map fun p => (p.2, p.1) := by
    rw [Array.toList_map]
    have : ∀ (xs : List Operand) (k : Nat), ((xs.zipIdx k).map fun p => (p.2, p.1)).map (fun (p : Nat × Operand) => (p.1, a.eval p.2)) = ((xs.map a.eval).zipIdx k).map fun p => (p.2, p.1) := by
     intro xs
     induction xs with
     | nil => intro k; rfl
     | cons x xs ih => intro k; simp only [List.zipIdx_cons, List.map_cons]; rw [ih]
    rw [← this, ← hps]
   have hsz := run_sizeOf hv w
   have hsl := run_underlying ht.eq w
   have hb : ¬ (16777216 < len * n) := by have := Nat.le_of_ble_eq_true hbig.1; omega
   simp only [execOp, Instr.buildSlice, Sem.run_bind, hsl, Result.andThen_ok, hsz]
   rw [if_neg (by simpa using hb)]
   have hf2 : Instr.fill (fun i => some (i * n, n)) ar (ps.toArray.map fun (p : Nat × Operand) => (p.1, a.eval p.2)).toList = some ar' := by rw [hmap]; exact hf
   by_cases h0 : len * n = 0
   ·have har : ar = (Array.range (len * n)).map ((#[] : Array Value)[· % (#[] : Array Value).size]!) := by simp only [ar, if_pos h0]
    rw [har] at hf2
    rw [if_pos h0]
    simp only [Sem.run_bind, Sem.run_pure, Result.andThen_ok, hf2]
    simp [newRow]
   ·have har : ar = (Array.range (len * n)).map (z.cells[· % z.cells.size]!) := by simp only [ar, if_neg h0]
    rw [har] at hf2
    rw [if_neg h0]
    have hzv : (zeroValue e).run P w = .ok z w := by simp [zeroValue, typeInfo, hin, hiz]
    simp only [Sem.run_bind, Sem.run_pure, Result.andThen_ok, hzv, hf2]
    simp [newRow]
  have hrel := relL_flat h1 h3
  rw [← hal] at hrel
  have hlle : lls.length = len := by rw [← h1, hcl]
  have hfl : relL (lls.flatMap fun l => l) I ar'.toList := by simpa [List.flatMap] using hrel
  have hxl : xs.length = len := by rw [← hlle, hx]; simp
  have hfl2 : relL (xs.flatMap f') I ar'.toList := by rw [hx] at hfl; simpa [List.flatMap, List.map_map, Function.comp_def] using hfl
  have hxn : ∀ x ∈ xs, (f' x).length = n := fun x hxm => hlls _ (by rw [hx]; exact List.mem_map_of_mem hxm)
  have hsz2 : ar'.size = len * n := by
   have e1 := relL_length hfl2
   rw [flatMap_length hxn, hxl] at e1
   simpa using e1.symm
  unfold Oper.wp
  rw [hrun]
  refine hK w.heap.size _ _ I trivial I.le_refl rfl (hi.allocOwn _ _ rfl ⟨w.heap.size, len, ar', by rw [hxl], rfl, hsz2, by omega, by simp only [maxLen]; omega, by unfold lenMax; omega, hxn, ?_⟩)
  rw [hxl, ← hsz2, List.take_of_length_le (by simp)]
  exact hfl2
end
theorem LocP.imp {o : Oper} {d d' : D} (h : LocP P o g N M d) (hd : ∀ I v, d.rel I v → d'.rel I v) : LocP P o g N M d' :=
 ⟨fun I a w K Q hs hi hK => h.go I a w K Q hs hi fun v w' J h1 h2 h3 => hK v w' J h1 (hd _ _ h2) h3⟩
theorem d_toInts {d : D} {t t' : List Int} (e : t = t') (h : ∀ I v, d.rel I v → (dInts t').rel I v) : ∀ I v, d.rel I v → (dInts t).rel I v := e ▸ h
theorem d_toRows {d : D} {t t' : List (List Int)} (e : t = t') (h : ∀ I v, d.rel I v → (dRows t').rel I v) : ∀ I v, d.rel I v → (dRows t).rel I v := e ▸ h
end Go.Q

namespace Go.Q
variable {P : Program} {g : G} {N : Nat} {M : List Res} {dst : Option Tmp} {ty : TypeId} {pos : String} {after : Array Edge} {gd : Option (Nat × Bool)}
abbrev fU8 : Int → List D := fun x => [dInt .u8 x]
def dBy (xs : List Int) : D :=
  ⟨fun I v => ∃ a cap, v = .slice a xs.length cap ∧ xs.length ≤ cap ∧ cap ≤ maxLen ∧ xs.length ≤ 140737488355328 ∧ (∀ i x, xs[i]? = some x → ∃ p, a = some p ∧ p.spot = none ∧ I.at (p.add (i * 1)) [dInt .u8 x]),
   fun h ⟨a, cap, e, h1, h2, h3, h4⟩ => ⟨a, cap, e, h1, h2, h3, fun i x hx => let ⟨p, h6, h7, h8⟩ := h4 i x hx; ⟨p, h6, h7, Imm.at_mono h h8⟩⟩⟩
theorem dBy_sl {xs : List Int} (h : xs.length ≤ 17592186044416) : ∀ I v, (dBy xs).rel I v → (dSl 1 fU8 xs).rel I v := by
 rintro I v ⟨a, cap, e, h1, h2, h3, h4⟩
 exact ⟨a, cap, e, h1, h2, h, fun i x hx => let ⟨p, h5, h6, h7⟩ := h4 i x hx; ⟨rfl, p, h5, h6, h7⟩⟩
theorem loc_lenBy {t e : TypeId} [ht : TySl P t e] {x : Operand} {xs : List Int} (hx : opd g x = some (dBy xs)) : LocP P ⟨dst, .call ⟨.builtin .len, #[x], #[t]⟩, ty, pos, after, gd⟩ g N M (dInt .i64 (xs.length : Nat)) :=
 locP_of_run fun I a w hs hi => by
  obtain ⟨b, cap, hp, _⟩ := opd_sound hs hx
  exact ⟨.int .i64 xs.length, by simp [execOp, resolve, invoke, builtin, Builtin.len_, hp, run_underlying ht.eq, goInt], rfl⟩
theorem loc_sliceToBy {t e : TypeId} {agg : Bool} {n : Nat} [ht : TySl P t e] [hv : TyV P e agg n] {x hi : Operand} {xs : List Int} {kd : IntKind} {j : Int} (hx : opd g x = some (dBy xs)) (hy : opd g hi = some (dInt kd j)) (h : 0 ≤ j ∧ j ≤ xs.length ∧ j ≤ 17592186044416) :
  LocP P ⟨dst, .slice t x none (some hi) none, ty, pos, after, gd⟩ g N M (dSl 1 fU8 (xs.take j.toNat)) :=
 locP_of_run fun I a w hs hinv => by
  obtain ⟨b, cap, hp, h1, h2, h3, h4⟩ := opd_sound hs hx
  have hyv : a.eval hi = .int kd j := opd_sound hs hy
  have hc : (0 ≤ j ∧ j ≤ (cap : Int)) := by omega
  refine ⟨.slice (if cap = 0 then b else b.map (·.add 0)) j.toNat cap, ?_, b, cap, ?_, by rw [List.length_take]; omega, h2, by rw [List.length_take]; unfold lenMax; omega, fun i x hx => ?_⟩
  ·simp [execOp, Instr.sliceAt, Instr.slice, hp, hyv, run_underlying ht.eq, Instr.sliceBounds, Instr.sliceBound, asIntOf, hc, run_sizeOf hv]
  ·have : (if cap = 0 then b else b.map (·.add 0)) = b := by
    split
    ·rfl
    ·cases b with
     | none => rfl
     | some p => simp [Addr.add_zero']
   rw [this, List.length_take]
   congr 1
   omega
  ·rw [List.getElem?_take] at hx
   split at hx
   ·obtain ⟨p, h5, h6, h7⟩ := h4 i x hx
    exact ⟨rfl, p, h5, h6, h7⟩
   ·cases hx

theorem loc_andH {c0 : Prop} (hg : c0) {c b : Operand} {p q : Prop} (hc : opd g c = some (dIf c0 (dB p))) (hb : opd g b = some (dIf (c0 ∧ p) (dB q))) : LocP P ⟨dst, .pick c b (.const (.bool false)), ty, pos, after, gd⟩ g N M (dB (p ∧ q)) :=
 locP_of_run fun I a w hs _ => by
  obtain ⟨t, ht, hp⟩ := (opd_sound hs hc).1 hg
  have hq := opd_sound hs hb
  cases t with
  | false =>
   have hnp : ¬ p := fun h => by simpa using hp.2 h
   exact ⟨.bool false, by simp [execOp, ht, asBool, show a.eval (.const (.bool false)) = .bool false from rfl], false, rfl, by simp [hnp]⟩
  | true =>
   obtain ⟨u, hu, hq⟩ := hq.1 ⟨hg, hp.1 rfl⟩
   exact ⟨.bool u, by simp [execOp, ht, asBool, hu], u, rfl, by simp [hq, hp.1 rfl]⟩
theorem loc_orH {c0 : Prop} (hg : c0) {c b : Operand} {p q : Prop} (hc : opd g c = some (dIf c0 (dB p))) (hb : opd g b = some (dIf (c0 ∧ ¬ p) (dB q))) : LocP P ⟨dst, .pick c (.const (.bool true)) b, ty, pos, after, gd⟩ g N M (dB (p ∨ q)) :=
 locP_of_run fun I a w hs _ => by
  obtain ⟨t, ht, hp⟩ := (opd_sound hs hc).1 hg
  have hq := opd_sound hs hb
  cases t with
  | true => exact ⟨.bool true, by simp [execOp, ht, asBool, show a.eval (.const (.bool true)) = .bool true from rfl], true, rfl, by simp [hp.1 rfl]⟩
  | false =>
   have hnp : ¬ p := fun h => by simpa using hp.2 h
   obtain ⟨u, hu, hq⟩ := hq.1 ⟨hg, hnp⟩
   exact ⟨.bool u, by simp [execOp, ht, asBool, hu], u, rfl, by simp [hq, hnp]⟩
end Go.Q

namespace Go.Q
open Go.Proofs
open Classical
theorem has_spec (p x : Int) : SpecP Tryz.prog 140 [dInt .i64 p, dInt .i64 x] (dB (hasP p x)) := by
 refine specP_of_body Tryz.func140 rfl rfl (fun I M => ?_)
 refine run_seq ?_
 refine run_region ?_
 refine run_op (loc_assign rfl) rfl ?_
 refine run_nil ?_
 refine run_seq ?_
 refine run_region ?_
 refine run_op (loc_move rfl) rfl ?_
 refine run_op (loc_geq rfl rfl) rfl ?_
 refine run_op (loc_move rfl) rfl ?_
 refine run_gfirst rfl rfl gdI.ok (fun hg => loc_move rfl) rfl ?_
 refine run_gop rfl rfl gdI.ok (fun hg => loc_move rfl) rfl ?_
 refine run_gop rfl rfl gdI.ok (fun hg => loc_lss rfl rfl) rfl ?_
 refine run_gleave ?_
 refine run_op (loc_and rfl rfl) rfl ?_
 refine run_op (loc_assign rfl) rfl ?_
 refine run_nil ?_
 refine run_retP Tryz.func140 rfl rfl ?_
 exact fun _ _ h => h
theorem all1_spec (p x : Int) : SpecP Tryz.prog 139 [dInt .i64 x, dBox [dInt .i64 p]] (dB (¬ hasP p x)) := by
 refine specP_of_body Tryz.func139 rfl rfl (fun I M => ?_)
 refine run_seq ?_
 refine run_region ?_
 refine run_op (loc_assign rfl) rfl ?_
 refine run_nil ?_
 refine run_seq ?_
 refine run_region ?_
 refine run_op (loc_load1 rfl) rfl ?_
 refine run_op (loc_move rfl) rfl ?_
 refine run_op (loc_call (has_spec _ _) rfl) rfl ?_
 refine run_op (loc_not rfl) rfl ?_
 refine run_op (loc_assign rfl) rfl ?_
 refine run_nil ?_
 refine run_retP Tryz.func139 rfl rfl ?_
 exact fun _ _ h => h
theorem all_spec (p : Int) (xs : List Int) : SpecP Tryz.prog 99 [dInt .i64 p, dInts xs] (dB (∀ x ∈ xs, hasP p x)) := by
 refine specP_of_body Tryz.func99 rfl rfl (fun I M => ?_)
 refine run_seq ?_
 refine run_region ?_
 refine run_op (loc_box1 rfl) rfl ?_
 refine run_op (loc_assign rfl) rfl ?_
 refine run_nil ?_
 refine run_seq ?_
 refine run_region ?_
 refine run_op (loc_move rfl) rfl ?_
 refine run_op (loc_makeFunc rfl) rfl ?_
 refine runL_recast (s := 6) rfl (clo_fun (Ds := fun x : Int => [dInt .i64 x]) (d := fun x => dB (¬ hasP p x)) (fun x => all1_spec p x)) ?_
 refine run_op (loc_call (containsFuncI_spec (fun x => ¬ hasP p x) _) rfl) rfl ?_
 refine run_op (loc_not rfl) rfl ?_
 refine run_op (loc_assign rfl) rfl ?_
 refine run_nil ?_
 refine run_retP Tryz.func99 rfl rfl ?_
 exact d_B (by simp)
theorem of_spec (p : Int) : SpecP Tryz.prog 98 [dAgg [dInt .i64 p]] (dTup [dInt .i64 (ofP p), dB (okP p)]) := by
  refine specP_of_body Tryz.func98 rfl rfl (fun I M => ?_)
  refine run_seq ?_
  refine run_region ?_
  refine run_op (loc_boxN rfl) rfl ?_
  refine run_op (loc_assign rfl) rfl ?_
  refine run_op (loc_assign rfl) rfl ?_
  refine run_nil ?_
  refine run_seq ?_
  refine run_seq ?_
  refine run_region ?_
  refine run_op (loc_fieldAddr rfl) rfl ?_
  refine run_op (loc_load1 rfl) rfl ?_
  refine run_op (loc_lss rfl rfl) rfl ?_
  refine run_op (loc_move rfl) rfl ?_
  refine run_gfirst rfl rfl gdI.ok (fun hg => loc_fieldAddr rfl) rfl ?_
  refine run_gop rfl rfl gdI.ok (fun hg => loc_load1 rfl) rfl ?_
  refine run_gop rfl rfl gdI.ok (fun hg => loc_gtr rfl rfl) rfl ?_
  refine run_gleave ?_
  refine run_op (loc_or rfl rfl) rfl ?_
  refine run_nil ?_
  refine run_cond rfl (fun h1 => ?_) (fun h1 => ?_)
  ·
   refine run_seq ?_
   refine run_region ?_
   refine run_op (loc_assign rfl) rfl ?_
   refine run_op (loc_assign rfl) rfl ?_
   refine run_nil ?_
   refine run_ret2P Tryz.func98 rfl rfl rfl ?_
   exact d_tup2 (d_int (by unfold ofP; rw [if_neg (by unfold okP; omega)])) (d_B (by unfold okP; simp; omega))
  ·
   refine run_skip ?_
   refine run_seq ?_
   refine run_seq ?_
   refine run_region ?_
   refine run_op (loc_assign rfl) rfl ?_
   refine run_nil ?_
   refine run_block ?_
   refine run_loopC (σ := Int) (ks := [1]) (.cons rfl (.nil)) (fun d => [(4, dInt .i64 d)]) (fun d => 2 ≤ d ∧ d ≤ 256 ∧ ∀ e : Int, 2 ≤ e → e < d → p % e ≠ 0) (fun d => (p + 2 - d).toNat) (2) (⟨by omega, by omega, fun e h1 h2 => by omega⟩) (.cons rfl (by first | exact fun _ _ h => h | exact d_int (by omega) | exact d_int (by simp) | exact d_intN (by omega) | exact d_any) .nil) ?_
   rintro d ⟨hd1, hd2, hb⟩ ih2
   have hm := mul_bd (a := d) (b := d) (A := 256) (B := 256) (by omega) hd2 (by omega) hd2
   refine run_seq ?_
   refine run_seq ?_
   refine run_region ?_
   refine run_op (loc_move rfl) rfl ?_
   refine run_op (loc_move rfl) rfl ?_
   first | refine run_op (loc_mul rfl rfl (by first | omega | assumption)) rfl ?_ | refine run_op (loc_mulW rfl rfl) rfl ?_
   refine run_op (loc_fieldAddr rfl) rfl ?_
   refine run_op (loc_load1 rfl) rfl ?_
   refine run_op (loc_leq rfl rfl) rfl ?_
   refine run_nil ?_
   refine run_cond rfl (fun h3 => ?_) (fun h3 => ?_)
   ·
    refine run_skip ?_
    refine run_seq ?_
    refine run_block ?_
    refine run_seq ?_
    refine run_region ?_
    refine run_op (loc_fieldAddr rfl) rfl ?_
    refine run_op (loc_load1 rfl) rfl ?_
    refine run_op (loc_move rfl) rfl ?_
    first | refine run_op (loc_rem rfl rfl (by first | omega | assumption)) rfl ?_ | refine run_op (loc_remW rfl rfl (by first | omega | assumption)) rfl ?_
    refine run_op (loc_eql rfl rfl) rfl ?_
    refine run_nil ?_
    refine run_cond rfl (fun h4 => ?_) (fun h4 => ?_)
    ·
     refine run_seq ?_
     refine run_region ?_
     refine run_op (loc_assign rfl) rfl ?_
     refine run_op (loc_assign rfl) rfl ?_
     refine run_nil ?_
     refine run_ret2P Tryz.func98 rfl rfl rfl ?_
     exact d_tup2 (d_int (by unfold ofP; rw [if_neg (fun h => h.2.2 d hd1 (by assumption) (by assumption))])) (d_B ⟨False.elim, fun h => h.2.2 d hd1 (by assumption) (by assumption)⟩)
    ·
     refine run_skip ?_
     refine run_inBlock ?_
     refine run_region ?_
     refine run_op (loc_move rfl) rfl ?_
     first | refine run_op (loc_add rfl rfl (by first | omega | assumption)) rfl ?_ | refine run_op (loc_addW rfl rfl) rfl ?_
     refine run_op (loc_assign rfl) rfl ?_
     refine run_nil ?_
     exact run_againC ih2 (d + 1) (⟨by omega, by by_cases e : d = 256; (· subst e; omega); (· omega), fun e h1 h2 => by by_cases e2 : e = d; (· subst e2; assumption); (· exact hb e h1 (by omega))⟩) (by have := Int.mul_le_mul_of_nonneg_left hd1 (show 0 ≤ d by omega); omega) (.cons rfl (by first | exact fun _ _ h => h | exact d_int (by omega) | exact d_int (by simp) | exact d_intN (by omega) | exact d_any) .nil) (.cons rfl (fun _ _ x => x) (.nil))
   ·
    refine run_exit rfl ?_
    refine run_seq ?_
    refine run_region ?_
    refine run_op (loc_fieldAddr rfl) rfl ?_
    refine run_op (loc_load1 rfl) rfl ?_
    refine run_op (loc_assign rfl) rfl ?_
    refine run_op (loc_assign rfl) rfl ?_
    refine run_nil ?_
    refine run_ret2P Tryz.func98 rfl rfl rfl ?_
    have hok : okP p := ⟨by omega, by omega, fun e h1 h2 => hb e h1 (by by_cases e3 : e < d; (· exact e3); (· exfalso; have := mul_bd (a := d) (b := d) (A := e) (B := e) (by omega) (by omega) (by omega) (by omega); omega))⟩
    exact d_tup2 (d_int (by unfold ofP; rw [if_pos hok])) (d_B (by simp [hok]))
theorem rcheck3_spec (p : Int) : SpecP Tryz.prog 116 [dAgg [dInt .i64 p]] (dInt .i64 (errP p)) := by
  refine specP_of_body Tryz.func116 rfl rfl (fun I M => ?_)
  refine run_seq ?_
  refine run_region ?_
  refine run_op (loc_boxN rfl) rfl ?_
  refine run_op (loc_assign rfl) rfl ?_
  refine run_nil ?_
  refine run_seq ?_
  refine run_seq ?_
  refine run_region ?_
  refine run_op (loc_fieldAddr rfl) rfl ?_
  refine run_op (loc_load1 rfl) rfl ?_
  refine run_op (loc_lss rfl rfl) rfl ?_
  refine run_op (loc_move rfl) rfl ?_
  refine run_gfirst rfl rfl gdI.ok (fun hg => loc_fieldAddr rfl) rfl ?_
  refine run_gop rfl rfl gdI.ok (fun hg => loc_load1 rfl) rfl ?_
  refine run_gop rfl rfl gdI.ok (fun hg => loc_gtr rfl rfl) rfl ?_
  refine run_gleave ?_
  refine run_op (loc_or rfl rfl) rfl ?_
  refine run_nil ?_
  refine run_cond rfl (fun h1 => ?_) (fun h1 => ?_)
  ·
   refine run_seq ?_
   refine run_region ?_
   refine run_op (loc_assign rfl) rfl ?_
   refine run_nil ?_
   refine run_retP Tryz.func116 rfl rfl ?_
   exact d_int (by unfold errP; rw [if_neg (by unfold okP; omega)])
  ·
   refine run_skip ?_
   refine run_seq ?_
   refine run_seq ?_
   refine run_region ?_
   refine run_op (loc_assign rfl) rfl ?_
   refine run_nil ?_
   refine run_block ?_
   refine run_loopC (σ := Int) (ks := [1]) (.cons rfl (.nil)) (fun d => [(3, dInt .i64 d)]) (fun d => 2 ≤ d ∧ d ≤ 256 ∧ ∀ e : Int, 2 ≤ e → e < d → p % e ≠ 0) (fun d => (p + 2 - d).toNat) (2) (⟨by omega, by omega, fun e h1 h2 => by omega⟩) (.cons rfl (by first | exact fun _ _ h => h | exact d_int (by omega) | exact d_int (by simp) | exact d_intN (by omega) | exact d_any) .nil) ?_
   rintro d ⟨hd1, hd2, hb⟩ ih2
   have hm := mul_bd (a := d) (b := d) (A := 256) (B := 256) (by omega) hd2 (by omega) hd2
   refine run_seq ?_
   refine run_seq ?_
   refine run_region ?_
   refine run_op (loc_move rfl) rfl ?_
   refine run_op (loc_move rfl) rfl ?_
   first | refine run_op (loc_mul rfl rfl (by first | omega | assumption)) rfl ?_ | refine run_op (loc_mulW rfl rfl) rfl ?_
   refine run_op (loc_fieldAddr rfl) rfl ?_
   refine run_op (loc_load1 rfl) rfl ?_
   refine run_op (loc_leq rfl rfl) rfl ?_
   refine run_nil ?_
   refine run_cond rfl (fun h3 => ?_) (fun h3 => ?_)
   ·
    refine run_skip ?_
    refine run_seq ?_
    refine run_block ?_
    refine run_seq ?_
    refine run_region ?_
    refine run_op (loc_fieldAddr rfl) rfl ?_
    refine run_op (loc_load1 rfl) rfl ?_
    refine run_op (loc_move rfl) rfl ?_
    first | refine run_op (loc_rem rfl rfl (by first | omega | assumption)) rfl ?_ | refine run_op (loc_remW rfl rfl (by first | omega | assumption)) rfl ?_
    refine run_op (loc_eql rfl rfl) rfl ?_
    refine run_nil ?_
    refine run_cond rfl (fun h4 => ?_) (fun h4 => ?_)
    ·
     refine run_seq ?_
     refine run_region ?_
     refine run_op (loc_assign rfl) rfl ?_
     refine run_nil ?_
     refine run_retP Tryz.func116 rfl rfl ?_
     exact d_int (by unfold errP; rw [if_neg (fun h => h.2.2 d hd1 (by assumption) (by assumption))])
    ·
     refine run_skip ?_
     refine run_inBlock ?_
     refine run_region ?_
     refine run_op (loc_move rfl) rfl ?_
     first | refine run_op (loc_add rfl rfl (by first | omega | assumption)) rfl ?_ | refine run_op (loc_addW rfl rfl) rfl ?_
     refine run_op (loc_assign rfl) rfl ?_
     refine run_nil ?_
     exact run_againC ih2 (d + 1) (⟨by omega, by by_cases e : d = 256; (· subst e; omega); (· omega), fun e h1 h2 => by by_cases e2 : e = d; (· subst e2; assumption); (· exact hb e h1 (by omega))⟩) (by have := Int.mul_le_mul_of_nonneg_left hd1 (show 0 ≤ d by omega); omega) (.cons rfl (by first | exact fun _ _ h => h | exact d_int (by omega) | exact d_int (by simp) | exact d_intN (by omega) | exact d_any) .nil) (.cons rfl (fun _ _ x => x) (.nil))
   ·
    refine run_exit rfl ?_
    refine run_seq ?_
    refine run_region ?_
    refine run_op (loc_assign rfl) rfl ?_
    refine run_nil ?_
    refine run_retP Tryz.func116 rfl rfl ?_
    have hok : okP p := ⟨by omega, by omega, fun e h1 h2 => hb e h1 (by by_cases e3 : e < d; (· exact e3); (· exfalso; have := mul_bd (a := d) (b := d) (A := e) (B := e) (by omega) (by omega) (by omega) (by omega); omega))⟩
    exact d_int (by unfold errP; rw [if_pos hok])
theorem errP_zero {p : Int} : errP p = 0 ↔ okP p := by unfold errP; split <;> simp [*]
theorem fcheck_spec (p : Int) : SpecP Tryz.prog 106 [dAgg [dInt .i64 p]] (dInt .i64 (errP p)) := by
  refine specP_of_body Tryz.func106 rfl rfl (fun I M => ?_)
  refine run_seq ?_
  refine run_region ?_
  refine run_op (loc_boxN rfl) rfl ?_
  refine run_op (loc_assign rfl) rfl ?_
  refine run_nil ?_
  refine run_seq ?_
  refine run_seq ?_
  refine run_region ?_
  refine run_op (loc_loadN rfl rfl) rfl ?_
  refine run_op (loc_call (of_spec _) rfl) rfl ?_
  refine run_op (loc_move rfl) rfl ?_
  refine run_op (loc_extract rfl rfl) rfl ?_
  refine run_op (loc_extract rfl rfl) rfl ?_
  refine run_op (loc_assign rfl) rfl ?_
  refine run_op (loc_assign rfl) rfl ?_
  refine run_nil ?_
  refine run_seq ?_
  refine run_region ?_
  refine run_op (loc_move rfl) rfl ?_
  refine run_op (loc_not rfl) rfl ?_
  refine run_nil ?_
  refine run_cond rfl (fun h1 => ?_) (fun h1 => ?_)
  ·
   refine run_seq ?_
   refine run_region ?_
   refine run_op (loc_assign rfl) rfl ?_
   refine run_nil ?_
   refine run_retP Tryz.func106 rfl rfl ?_
   exact d_int (by unfold errP; rw [if_neg (by assumption)])
  ·
   refine run_skip ?_
   refine run_seq ?_
   refine run_region ?_
   refine run_op (loc_assign rfl) rfl ?_
   refine run_nil ?_
   refine run_retP Tryz.func106 rfl rfl ?_
   exact d_int (by unfold errP; rw [if_pos (Classical.not_not.1 (by assumption))])
theorem fadd_spec (p a b : Int) (h : 2 ≤ p ∧ p ≤ 65521) (ha : 0 ≤ a ∧ a ≤ 65521) (hb : 0 ≤ b ∧ b ≤ 65521) : SpecP Tryz.prog 177 [dInt .i64 p, dInt .i64 a, dInt .i64 b] (dInt .i64 ((a + b) % p)) := by
 refine specP_of_body Tryz.func177 rfl rfl (fun I M => ?_)
 refine run_seq ?_
 refine run_region ?_
 refine run_op (loc_assign rfl) rfl ?_
 refine run_nil ?_
 refine run_seq ?_
 refine run_region ?_
 refine run_op (loc_move rfl) rfl ?_
 refine run_op (loc_move rfl) rfl ?_
 first | refine run_op (loc_add rfl rfl (by first | omega | assumption)) rfl ?_ | refine run_op (loc_addW rfl rfl) rfl ?_
 refine run_op (loc_move rfl) rfl ?_
 first | refine run_op (loc_rem rfl rfl (by first | omega | assumption)) rfl ?_ | refine run_op (loc_remW rfl rfl (by first | omega | assumption)) rfl ?_
 refine run_op (loc_assign rfl) rfl ?_
 refine run_nil ?_
 refine run_retP Tryz.func177 rfl rfl ?_
 exact fun _ _ h => h
theorem fmul_spec (p a b : Int) (h : 2 ≤ p ∧ p ≤ 65521) (ha : 0 ≤ a ∧ a ≤ 65521) (hb : 0 ≤ b ∧ b ≤ 65521) : SpecP Tryz.prog 178 [dInt .i64 p, dInt .i64 a, dInt .i64 b] (dInt .i64 (a * b % p)) := by
 have hm := mul_bd ha.1 ha.2 hb.1 hb.2
 refine specP_of_body Tryz.func178 rfl rfl (fun I M => ?_)
 refine run_seq ?_
 refine run_region ?_
 refine run_op (loc_assign rfl) rfl ?_
 refine run_nil ?_
 refine run_seq ?_
 refine run_region ?_
 refine run_op (loc_move rfl) rfl ?_
 refine run_op (loc_move rfl) rfl ?_
 first | refine run_op (loc_mul rfl rfl (by first | omega | assumption)) rfl ?_ | refine run_op (loc_mulW rfl rfl) rfl ?_
 refine run_op (loc_move rfl) rfl ?_
 first | refine run_op (loc_rem rfl rfl (by first | omega | assumption)) rfl ?_ | refine run_op (loc_remW rfl rfl (by first | omega | assumption)) rfl ?_
 refine run_op (loc_assign rfl) rfl ?_
 refine run_nil ?_
 refine run_retP Tryz.func178 rfl rfl ?_
 exact fun _ _ h => h
theorem power_spec (p a : Int) (n : Nat) (h : 2 ≤ p ∧ p ≤ 65521) (ha : 0 ≤ a ∧ a ≤ 65521) (hn : n ≤ 65521) : SpecP Tryz.prog 149 [dInt .i64 p, dInt .i64 a, dInt .i64 (n : Nat)] (dInt .i64 (powM p a n)) := by
  refine specP_of_body Tryz.func149 rfl rfl (fun I M => ?_)
  refine run_seq ?_
  refine run_region ?_
  refine run_op (loc_assign rfl) rfl ?_
  refine run_nil ?_
  refine run_seq ?_
  refine run_region ?_
  refine run_op (loc_assign rfl) rfl ?_
  refine run_nil ?_
  refine run_seq ?_
  refine run_block ?_
  refine run_loopC (σ := Int × Int × Nat) (ks := [0]) (.cons rfl (.nil)) (fun s => [(1, dInt .i64 s.2.1), (2, dInt .i64 (s.2.2 : Nat)), (7, dInt .i64 s.1)]) (fun s => (0 ≤ s.1 ∧ s.1 < p) ∧ (0 ≤ s.2.1 ∧ s.2.1 ≤ 65521) ∧ s.2.2 ≤ 65521 ∧ s.1 * s.2.1 ^ s.2.2 % p = powM p a n) (fun s => s.2.2) ((1, a, n)) (⟨⟨by omega, by simp only; omega⟩, ha, hn, by rw [Int.one_mul]; rfl⟩) (.cons rfl (by first | exact fun _ _ h => h | exact d_int (by omega) | exact d_int (by simp) | exact d_intN (by omega) | exact d_any) (.cons rfl (by first | exact fun _ _ h => h | exact d_int (by omega) | exact d_int (by simp) | exact d_intN (by omega) | exact d_any) (.cons rfl (by first | exact fun _ _ h => h | exact d_int (by omega) | exact d_int (by simp) | exact d_intN (by omega) | exact d_any) .nil))) ?_
  rintro s ⟨hx, hb, hm, he⟩ ih1
  have hbb := mod_bd (s.2.1 * s.2.1) (show 0 < p by omega)
  have hxb := mod_bd (s.1 * s.2.1) (show 0 < p by omega)
  refine run_seq ?_
  refine run_seq ?_
  refine run_region ?_
  refine run_op (loc_move rfl) rfl ?_
  refine run_op (loc_gtr rfl rfl) rfl ?_
  refine run_nil ?_
  refine run_cond rfl (fun h2 => ?_) (fun h2 => ?_)
  ·
   refine run_skip ?_
   refine run_seq ?_
   refine run_block ?_
   refine run_seq ?_
   refine run_seq ?_
   refine run_region ?_
   refine run_op (loc_move rfl) rfl ?_
   refine run_op (loc_and1 rfl rfl (by first | omega | assumption)) rfl ?_
   refine run_op (loc_eql rfl rfl) rfl ?_
   refine run_nil ?_
   refine run_joinC (σ := Int) (ks := [0, 1, 2]) (.cons rfl (.cons rfl (.cons rfl (.nil)))) (fun y => [(7, dInt .i64 y)]) (fun y => (0 ≤ y ∧ y < p) ∧ y * (s.2.1 * s.2.1 % p) ^ (s.2.2 / 2) % p = powM p a n) (fun j3 => ?_) ?_
   ·
    refine run_cond rfl (fun h4 => ?_) (fun h4 => ?_)
    ·
     refine run_region ?_
     refine run_op (loc_move rfl) rfl ?_
     refine run_op (loc_move rfl) rfl ?_
     refine run_op (loc_move rfl) rfl ?_
     refine run_op (loc_call (fmul_spec _ _ _ h (by omega) (by omega)) rfl) rfl ?_
     refine run_op (loc_assign rfl) rfl ?_
     refine run_nil ?_
     exact run_atC j3 (s.1 * s.2.1 % p) (⟨hxb, by rw [pow_step1 p s.1 s.2.1 s.2.2 (by omega), he]⟩) (.cons rfl (by first | exact fun _ _ h => h | exact d_int (by omega) | exact d_int (by simp) | exact d_intN (by omega) | exact d_any) .nil) (.cons rfl (fun _ _ x => x) (.cons rfl (fun _ _ x => x) (.cons rfl (fun _ _ x => x) (.nil))))
    ·
     refine run_skip ?_
     exact run_atC j3 (s.1) (⟨hx, by rw [pow_step0 p s.1 s.2.1 s.2.2 (by omega), he]⟩) (.cons rfl (by first | exact fun _ _ h => h | exact d_int (by omega) | exact d_int (by simp) | exact d_intN (by omega) | exact d_any) .nil) (.cons rfl (fun _ _ x => x) (.cons rfl (fun _ _ x => x) (.cons rfl (fun _ _ x => x) (.nil))))
   rintro y ⟨hy, hye⟩
   refine run_region ?_
   refine run_op (loc_move rfl) rfl ?_
   refine run_op (loc_move rfl) rfl ?_
   refine run_op (loc_move rfl) rfl ?_
   refine run_op (loc_call (fmul_spec _ _ _ h (by omega) (by omega)) rfl) rfl ?_
   refine run_op (loc_assign rfl) rfl ?_
   refine run_nil ?_
   refine run_inBlock ?_
   refine run_region ?_
   refine run_op (loc_move rfl) rfl ?_
   refine run_op (loc_shrN (c := 1) (q := 2) rfl rfl rfl (by decide) (by first | omega | assumption) (by decide)) rfl ?_
   refine run_op (loc_assign rfl) rfl ?_
   refine run_nil ?_
   exact run_againC ih1 ((y, s.2.1 * s.2.1 % p, s.2.2 / 2)) (⟨hy, by simp only; omega, by simp only; omega, hye⟩) (by simp only; omega) (.cons rfl (by first | exact fun _ _ h => h | exact d_int (by omega) | exact d_int (by simp) | exact d_intN (by omega) | exact d_any) (.cons rfl (by first | exact fun _ _ h => h | exact d_int (by omega) | exact d_int (by simp) | exact d_intN (by omega) | exact d_any) (.cons rfl (by first | exact fun _ _ h => h | exact d_int (by omega) | exact d_int (by simp) | exact d_intN (by omega) | exact d_any) .nil))) (.cons rfl (fun _ _ x => x) (.nil))
  ·
   refine run_exit rfl ?_
   refine run_seq ?_
   refine run_region ?_
   refine run_op (loc_move rfl) rfl ?_
   refine run_op (loc_assign rfl) rfl ?_
   refine run_nil ?_
   refine run_retP Tryz.func149 rfl rfl ?_
   exact d_int (by rw [← he, show s.2.2 = 0 by omega, Int.pow_zero, Int.mul_one, Int.emod_eq_of_lt hx.1 hx.2])
theorem addTimes_spec (p x : Int) (v : Value) (to l : List Int) (h : 2 ≤ p ∧ p ≤ 65521) (hx : 0 ≤ x ∧ x ≤ 65521) (ht : ∀ t ∈ to, hasP p t) (hl : ∀ t ∈ l, hasP p t) (hlen : l.length ≤ to.length) : Spec Tryz.prog 148 [dInt .i64 p, dVal v, dInt .i64 x, dInts l] [rRow v 3 1 fI to] (σ := Unit) (fun _ => True) (fun _ => dTop) (fun _ => [rRow v 3 1 fI (addT p x to l)]) := by
  refine spec_of_body Tryz.func148 rfl rfl (fun I F => ?_)
  refine run_seq ?_
  refine run_region ?_
  refine run_op (loc_move rfl) rfl ?_
  first | refine runL_fact (s := 10) rfl (fun _ _ h => dSl_len h) (fun hlen1 => ?_) | skip
  refine run_op (loc_len rfl) rfl ?_
  refine run_op (loc_move rfl) rfl ?_
  refine run_nil ?_
  refine run_block ?_
  have hnil : addT p x to [] = to := addT_nil p x to
  refine run_weaken (M' := rRow v 3 1 fI (addT p x to (l.take 0)) :: F) (fun _ _ _ hs hi => ⟨hs, by rw [List.take_zero, hnil]; exact hi⟩) ?_
  refine run_loopF (σ := Nat) (ks := [0, 1, 2, 10, 11]) (.cons rfl (.cons rfl (.cons rfl (.cons rfl (.cons rfl (.nil)))))) (fun k => [(12, dInt .i64 (k : Nat))]) (fun k => [rRow v 3 1 fI (addT p x to (l.take k))]) (fun k => k ≤ l.length) (fun k => l.length - k) (0) (Nat.zero_le _) (.cons rfl (by first | exact fun _ _ h => h | exact d_int (by omega) | exact d_int (by simp) | exact d_intN (by omega) | exact d_any) .nil) (rfl) ?_
  intro k hk ih2
  have hal := addT_len p x to (l.take k)
  refine run_seq ?_
  refine run_region ?_
  refine run_op (loc_lss rfl rfl) rfl ?_
  refine run_nil ?_
  refine run_seq ?_
  refine run_cond rfl (fun h3 => ?_) (fun h3 => ?_)
  ·
   refine run_skip ?_
   refine run_seq ?_
   refine run_block ?_
   refine run_seq ?_
   refine run_region ?_
   refine run_op (loc_move rfl) rfl ?_
   first | refine run_op (loc_index rfl rfl (by first | omega | assumption)) rfl ?_ | refine run_op (loc_indexI rfl rfl (by first | omega | assumption)) rfl ?_
   refine run_op (loc_load1 rfl) rfl ?_
   refine run_op (loc_assign rfl) rfl ?_
   refine run_op (loc_assign rfl) rfl ?_
   refine run_nil ?_
   have h1 := ht (to[k]?.getD default) (getD_mem (by omega))
   have h2 := hl (l[k]?.getD default) (getD_mem (by omega))
   unfold hasP at h1 h2
   have h3 := mod_bd (x * (l[k]?.getD default)) (show 0 < p by omega)
   have h4 := addT_get p x to (l.take k) k (by rw [List.length_take]; omega)
   refine run_rowForm .here (by omega) (fun b cap hv => ?_)
   subst hv
   refine dr_start _ (.none) [⟨[(1, none)], [], none⟩,
       ⟨[(8, none)], [], none⟩,
       ⟨[(0, none)], [], none⟩,
       ⟨[(1, none)], [], none⟩,
       ⟨[(8, none)], [], none⟩,
       ⟨[(20, some (3, false)), (21, some (4, false))], [3, 4], none⟩,
       ⟨[(22, some (5, false))], [3, 4, 5], some (0, 0, false)⟩,
       ⟨[(0, none)], [], none⟩,
       ⟨[(2, none)], [], none⟩,
       ⟨[(9, none)], [], none⟩,
       ⟨[(24, some (7, false)), (25, some (8, false)), (26, some (9, false))], [7, 8, 9], none⟩,
       ⟨[(19, some (2, false)), (23, some (6, false)), (27, some (10, false))], [2, 3, 4, 5, 6, 7, 8, 9, 10], none⟩,
       ⟨[(17, some (0, false)), (18, some (1, false))], [0, 1, 2, 3, 4, 5, 6, 7, 8, 9, 10, 11], none⟩,
       ⟨[(29, some (12, false)), (28, some (11, false))], [0, 1, 2, 3, 4, 5, 6, 7, 8, 9, 10, 11, 12], some (0, 0, true)⟩] [_] _ rfl rfl ?_
   refine dq_pure rfl (fun s => .g rfl (.nil)) (fun s hs _ => loc_move rfl) (by exact .nil) ?_
   refine dq_pure rfl (fun s => .g rfl (.nil)) (fun s hs _ => loc_move rfl) (by exact .nil) ?_
   refine dq_pure rfl (fun s => .g rfl (.nil)) (fun s hs _ => loc_move rfl) (by exact .nil) ?_
   refine dq_pure rfl (fun s => .g rfl (.nil)) (fun s hs _ => loc_move rfl) (by exact .nil) ?_
   refine dq_pure rfl (fun s => .g rfl (.nil)) (fun s hs _ => loc_move rfl) (by exact .nil) ?_
   first | refine dq_pure rfl (fun s => .op rfl (.op rfl (.nil))) (fun s hs _ => loc_indexRow rfl rfl (by first | omega | assumption)) (by exact .nil) ?_ | refine dq_pure rfl (fun s => .op rfl (.op rfl (.nil))) (fun s hs _ => loc_indexRowI rfl rfl (by first | omega | assumption)) (by exact .nil) ?_
   refine dq_read rfl (fun s => .op rfl (.nil)) rfl rfl (fun s hs _ hm => loc_loadRow1 rfl hm (by first | omega | assumption)) (by exact .nil) ?_
   refine dq_pure rfl (fun s => .g rfl (.nil)) (fun s hs _ => loc_move rfl) (by exact .nil) ?_
   refine dq_pure rfl (fun s => .g rfl (.nil)) (fun s hs _ => loc_move rfl) (by exact .nil) ?_
   refine dq_pure rfl (fun s => .g rfl (.nil)) (fun s hs _ => loc_move rfl) (by exact .nil) ?_
   refine dq_pure rfl (fun s => .op rfl (.op rfl (.op rfl (.nil)))) (fun s hs _ => loc_call (fmul_spec _ _ _ h (by omega) (by omega)) rfl) (by exact .nil) ?_
   refine dq_pure rfl (fun s => .op rfl (.op rfl (.op rfl (.nil)))) (fun s hs _ => loc_call (fadd_spec _ _ _ h (by omega) (by omega)) rfl) (by exact .nil) ?_
   first | refine dq_pure rfl (fun s => .op rfl (.op rfl (.nil))) (fun s hs _ => loc_indexRow rfl rfl (by first | omega | assumption)) (by exact .nil) ?_ | refine dq_pure rfl (fun s => .op rfl (.op rfl (.nil))) (fun s hs _ => loc_indexRowI rfl rfl (by first | omega | assumption)) (by exact .nil) ?_
   refine dq_write0 rfl (fun s => .op rfl (.op rfl (.nil))) rfl rfl (fun s hs => loc_storeRow1 _ rfl rfl rfl (by first | omega | assumption)) (by exact .nil) ?_
   refine dq_end (rs := [_]) () rfl (fun _ => rfl) (.nil) rfl (fun _ => rfl) (fun _ _ => ?_)
   dsimp only [outG, outM, List.map, List.set, id]
   refine run_inBlock ?_
   refine run_region ?_
   first | refine run_op (loc_add rfl rfl (by first | omega | assumption)) rfl ?_ | refine run_op (loc_addW rfl rfl) rfl ?_
   refine run_op (loc_move rfl) rfl ?_
   refine run_nil ?_
   exact run_againF ih2 (k + 1) (by omega) (by omega) (.cons rfl (by first | exact fun _ _ h => h | exact d_int (by omega) | exact d_int (by simp) | exact d_intN (by omega) | exact d_any) .nil) (.cons rfl (fun _ _ x => x) (.cons rfl (fun _ _ x => x) (.cons rfl (fun _ _ x => x) (.cons rfl (fun _ _ x => x) (.cons rfl (fun _ _ x => x) (.nil)))))) (by simp only [appR]; rw [addT_take p x to l k (by omega) (by omega)]; congr 4; omega)
  ·
   refine run_exit rfl ?_
   refine run_ret0End (()) Tryz.func148 rfl  ?_ (trivial) (fun _ _ h => by rw [List.take_of_length_le (by omega)] at h; exact h)
   exact fun _ _ _ => trivial
end Go.Q

namespace Go.Q
open Go.Proofs
open Classical
end Go.Q

namespace Go.Q
open Classical

end Go.Q

namespace Go.Q
open Go.Proofs
open Classical
end Go.Q

namespace Go.Q
variable {P : Program} {f : FuncId} {N : Nat} {I0 : Imm} {R : Goal} {g : G} {k : List Item} {F : List Res}
theorem run_inv {M M' : List Res} (hw : ∀ I w, Inv I M w → Inv I M' w) (h : Run P f N I0 R g M' k) : Run P f N I0 R g M k :=
 run_weaken (fun I _ w hs hi => ⟨hs, hw I w hi⟩) h
theorem run_rowV {M : List Res} {s : Nat} {C : Res → List Res} {F' : List Res} {α : Type} {T n : Nat} {f' : α → List D} {xs : List α} {v : Value} (hs : look g s = some (dVal v)) (hm : Sel (rRow v T n f' xs) M C F')
  (h : Run P f N I0 R ((s, dSlV v) :: g) M k) : Run P f N I0 R g M k := by
 constructor
 intro I a w b cs hb hk hl hsl hi
 refine h.go I a w b cs hb hk hl (slots_cast hsl I.le_refl hs (fun u hu => ⟨hu, ?_⟩)) hi
 rw [show u = v from hu]
 rcases row_cases (hi.perm hm.perm.1) with ⟨e, _⟩ | ⟨b, cap, cs, e, _⟩
 ·exact ⟨_, _, _, e⟩
 ·exact ⟨_, _, _, e⟩
end Go.Q

namespace Go.Q
open Go.Proofs
open Classical
end Go.Q

namespace Go.Q
open Classical


theorem rep0_has {p : Int} (hp : 2 ≤ p) (n : Nat) : ∀ x ∈ List.replicate n (0 : Int), hasP p x := fun x hx => by rw [List.eq_of_mem_replicate hx]; unfold hasP; omega

noncomputable def codE (p s d g : Int) : Int := if ¬ okP p then 9 else if s < 2 ∨ s > 10 ∨ s ≥ p ∨ d < 1 ∨ g < 1 ∨ d > s ∨ g > s ∨ 2 * g + d - 1 > s then 1 else 0
theorem codE_zero {p s d g : Int} (h : codE p s d g = 0) : okP p ∧ (2 ≤ s ∧ s ≤ 10) ∧ s < p ∧ (1 ≤ d ∧ d ≤ s) ∧ (1 ≤ g ∧ g ≤ s) ∧ 2 * g + d - 1 ≤ s := by
 unfold codE at h
 split at h
 ·cases h
 ·split at h
  ·cases h
  ·rename_i h1 h2
   exact ⟨Classical.not_not.1 h1, by omega, by omega, by omega, by omega, by omega⟩
theorem codE_ok {p s d g : Int} (hp : okP p) (h1 : 2 ≤ s ∧ s ≤ 10) (h2 : s < p) (h3 : 1 ≤ d ∧ d ≤ s) (h4 : 1 ≤ g ∧ g ≤ s) (h5 : 2 * g + d - 1 ≤ s) : codE p s d g = 0 := by
 unfold codE
 rw [if_neg (Classical.not_not.2 hp), if_neg (by omega)]
theorem rowErr_ok {p w : Int} {r : List Int} (h : rowErr p w r = 0) : (r.length : Int) = w ∧ ∀ x ∈ r, hasP p x := by
 unfold rowErr at h
 split at h
 ·cases h
 ·rename_i h1
  split at h
  ·cases h
  ·rename_i h2
   exact ⟨by omega, Classical.not_not.1 h2⟩

def grpN (n g : Nat) : Nat := (n + g - 1) / g
def grpL (rows : List (List Int)) (g : Nat) : List (Nat × List (List Int)) := (List.range (grpN rows.length g)).map fun i => (i, (rows.take (min ((i + 1) * g) rows.length)).drop (i * g))
theorem grpN_lt {n g i : Nat} (hg : 1 ≤ g) : i < grpN n g ↔ i * g < n := by
 unfold grpN
 rw [Nat.lt_div_iff_mul_lt hg]
 omega
theorem grpL_len (rows : List (List Int)) (g : Nat) : (grpL rows g).length = grpN rows.length g := by simp [grpL]
theorem grpL_get {rows : List (List Int)} {g i : Nat} (hg : 1 ≤ g) (h : i * g < rows.length) : (grpL rows g)[i]? = some (i, (rows.take (min ((i + 1) * g) rows.length)).drop (i * g)) := by
 have := (grpN_lt (n := rows.length) (i := i) hg).2 h
 simp [grpL, this]
theorem grpL_mem {rows : List (List Int)} {g : Nat} {q : Nat × List (List Int)} (h : q ∈ grpL rows g) : (∀ r ∈ q.2, r ∈ rows) ∧ q.2.length ≤ g := by
 obtain ⟨i, _, rfl⟩ := List.mem_map.1 h
 refine ⟨fun r hr => List.mem_of_mem_take (List.mem_of_mem_drop hr), ?_⟩
 simp only [List.length_drop, List.length_take, Nat.add_mul]
 omega
noncomputable def heldN (p j : Int) (w : Nat) (grp : List (List Int)) (n : Nat) : List Int := (List.range n).foldl (fun a i => addT p (powM p j i) a (grp[i]?.getD default)) (List.replicate w 0)
noncomputable def heldG (p j : Int) (w : Nat) (grp : List (List Int)) : List Int := heldN p j w grp grp.length
theorem heldN_snoc (p j : Int) (w : Nat) (grp : List (List Int)) (n : Nat) : heldN p j w grp (n + 1) = addT p (powM p j n) (heldN p j w grp n) (grp[n]?.getD default) := by simp [heldN, List.range_succ]
theorem heldN_ok {p : Int} (hp : 2 ≤ p) (j : Int) (w : Nat) (grp : List (List Int)) : ∀ n, (heldN p j w grp n).length = w ∧ ∀ x ∈ heldN p j w grp n, hasP p x
 | 0 => ⟨by simp [heldN], rep0_has hp w⟩
 | n + 1 => by
  obtain ⟨h1, h2⟩ := heldN_ok hp j w grp n
  rw [heldN_snoc]
  exact ⟨by rw [addT_len]; exact h1, addT_has (by omega) h2⟩
noncomputable def holdE (p s d g w : Int) (rows : List (List Int)) (j : Int) : Int := if codE p s d g ≠ 0 then codE p s d g else if j < 1 ∨ j > s then 1 else if ¬ (0 ≤ w ∧ w ≤ 64) ∨ 1024 < rows.length then 4 else firstErr (rowErr p w) rows
noncomputable def holdG (p s d g w : Int) (rows : List (List Int)) (j : Int) : List (List Int) := if holdE p s d g w rows j = 0 then (grpL rows g.toNat).map fun q => heldG p j w.toNat q.2 else []
end Go.Q

namespace Go.Q
open Go.Proofs
open Classical
end Go.Q

namespace Go.Q
open Go.Proofs
open Classical
theorem wide_spec (n : Int) : SpecP Tryz.prog 146 [dInt .i64 n] (dB (0 ≤ n ∧ n ≤ 64)) := by
 refine specP_of_body Tryz.func146 rfl rfl (fun I M => ?_)
 refine run_seq ?_
 refine run_region ?_
 refine run_op (loc_assign rfl) rfl ?_
 refine run_nil ?_
 refine run_seq ?_
 refine run_region ?_
 refine run_op (loc_move rfl) rfl ?_
 refine run_op (loc_geq rfl rfl) rfl ?_
 refine run_op (loc_move rfl) rfl ?_
 refine run_gfirst rfl rfl gdI.ok (fun hg => loc_move rfl) rfl ?_
 refine run_gop rfl rfl gdI.ok (fun hg => loc_leq rfl rfl) rfl ?_
 refine run_gleave ?_
 refine run_op (loc_and rfl rfl) rfl ?_
 refine run_op (loc_assign rfl) rfl ?_
 refine run_nil ?_
 refine run_retP Tryz.func146 rfl rfl ?_
 exact fun _ _ h => h
theorem gcheck_spec (p s d g : Int) : SpecP Tryz.prog 145 [dAgg [dInt .i64 p], dAgg [dInt .i64 s, dInt .i64 d, dInt .i64 g]] (dInt .i64 (codE p s d g)) := by
  refine specP_of_body Tryz.func145 rfl rfl (fun I M => ?_)
  refine run_seq ?_
  refine run_region ?_
  refine run_op (loc_boxN rfl) rfl ?_
  refine run_op (loc_boxN rfl) rfl ?_
  refine run_op (loc_assign rfl) rfl ?_
  refine run_nil ?_
  refine run_seq ?_
  refine run_seq ?_
  refine run_region ?_
  refine run_op (loc_loadN rfl rfl) rfl ?_
  refine run_op (loc_call (of_spec _) rfl) rfl ?_
  refine run_op (loc_move rfl) rfl ?_
  refine run_op (loc_extract rfl rfl) rfl ?_
  refine run_op (loc_extract rfl rfl) rfl ?_
  refine run_op (loc_assign rfl) rfl ?_
  refine run_op (loc_assign rfl) rfl ?_
  refine run_nil ?_
  refine run_seq ?_
  refine run_region ?_
  refine run_op (loc_move rfl) rfl ?_
  refine run_op (loc_not rfl) rfl ?_
  refine run_nil ?_
  refine run_cond rfl (fun h1 => ?_) (fun h1 => ?_)
  ·
   have c1 := h1
   refine run_seq ?_
   refine run_region ?_
   refine run_op (loc_assign rfl) rfl ?_
   refine run_nil ?_
   refine run_retP Tryz.func145 rfl rfl ?_
   exact d_int (by unfold codE; rw [if_pos c1])
  ·
   have c1 := h1
   refine run_skip ?_
   refine run_seq ?_
   refine run_seq ?_
   refine run_region ?_
   refine run_op (loc_fieldAddr rfl) rfl ?_
   refine run_op (loc_load1 rfl) rfl ?_
   refine run_op (loc_lss rfl rfl) rfl ?_
   refine run_op (loc_move rfl) rfl ?_
   refine run_gfirst rfl rfl gdI.ok (fun hg => loc_fieldAddr rfl) rfl ?_
   refine run_gop rfl rfl gdI.ok (fun hg => loc_load1 rfl) rfl ?_
   refine run_gop rfl rfl gdI.ok (fun hg => loc_gtr rfl rfl) rfl ?_
   refine run_gleave ?_
   refine run_op (loc_or rfl rfl) rfl ?_
   refine run_op (loc_move rfl) rfl ?_
   refine run_gfirst rfl rfl gdI.ok (fun hg => loc_fieldAddr rfl) rfl ?_
   refine run_gop rfl rfl gdI.ok (fun hg => loc_load1 rfl) rfl ?_
   refine run_gop rfl rfl gdI.ok (fun hg => loc_fieldAddr rfl) rfl ?_
   refine run_gop rfl rfl gdI.ok (fun hg => loc_load1 rfl) rfl ?_
   refine run_gop rfl rfl gdI.ok (fun hg => loc_geq rfl rfl) rfl ?_
   refine run_gleave ?_
   refine run_op (loc_or rfl rfl) rfl ?_
   refine run_op (loc_move rfl) rfl ?_
   refine run_gfirst rfl rfl gdI.ok (fun hg => loc_fieldAddr rfl) rfl ?_
   refine run_gop rfl rfl gdI.ok (fun hg => loc_load1 rfl) rfl ?_
   refine run_gop rfl rfl gdI.ok (fun hg => loc_lss rfl rfl) rfl ?_
   refine run_gleave ?_
   refine run_op (loc_or rfl rfl) rfl ?_
   refine run_op (loc_move rfl) rfl ?_
   refine run_gfirst rfl rfl gdI.ok (fun hg => loc_fieldAddr rfl) rfl ?_
   refine run_gop rfl rfl gdI.ok (fun hg => loc_load1 rfl) rfl ?_
   refine run_gop rfl rfl gdI.ok (fun hg => loc_lss rfl rfl) rfl ?_
   refine run_gleave ?_
   refine run_op (loc_or rfl rfl) rfl ?_
   refine run_op (loc_move rfl) rfl ?_
   refine run_gfirst rfl rfl gdI.ok (fun hg => loc_fieldAddr rfl) rfl ?_
   refine run_gop rfl rfl gdI.ok (fun hg => loc_load1 rfl) rfl ?_
   refine run_gop rfl rfl gdI.ok (fun hg => loc_fieldAddr rfl) rfl ?_
   refine run_gop rfl rfl gdI.ok (fun hg => loc_load1 rfl) rfl ?_
   refine run_gop rfl rfl gdI.ok (fun hg => loc_gtr rfl rfl) rfl ?_
   refine run_gleave ?_
   refine run_op (loc_or rfl rfl) rfl ?_
   refine run_op (loc_move rfl) rfl ?_
   refine run_gfirst rfl rfl gdI.ok (fun hg => loc_fieldAddr rfl) rfl ?_
   refine run_gop rfl rfl gdI.ok (fun hg => loc_load1 rfl) rfl ?_
   refine run_gop rfl rfl gdI.ok (fun hg => loc_fieldAddr rfl) rfl ?_
   refine run_gop rfl rfl gdI.ok (fun hg => loc_load1 rfl) rfl ?_
   refine run_gop rfl rfl gdI.ok (fun hg => loc_gtr rfl rfl) rfl ?_
   refine run_gleave ?_
   refine run_op (loc_or rfl rfl) rfl ?_
   refine run_op (loc_move rfl) rfl ?_
   refine run_gfirst rfl rfl gdI.ok (fun hg => loc_fieldAddr rfl) rfl ?_
   refine run_gop rfl rfl gdI.ok (fun hg => loc_load1 rfl) rfl ?_
   first | refine run_gop rfl rfl gdI.ok (fun hg => loc_mul rfl rfl (by first | omega | assumption | (refine ⟨?_, ?_⟩ <;> omega))) rfl ?_ | refine run_gop rfl rfl gdI.ok (fun hg => loc_mulW rfl rfl) rfl ?_
   refine run_gop rfl rfl gdI.ok (fun hg => loc_fieldAddr rfl) rfl ?_
   refine run_gop rfl rfl gdI.ok (fun hg => loc_load1 rfl) rfl ?_
   first | refine run_gop rfl rfl gdI.ok (fun hg => loc_add rfl rfl (by first | omega | assumption | (refine ⟨?_, ?_⟩ <;> omega))) rfl ?_ | refine run_gop rfl rfl gdI.ok (fun hg => loc_addW rfl rfl) rfl ?_
   first | refine run_gop rfl rfl gdI.ok (fun hg => loc_sub rfl rfl (by first | omega | assumption | (refine ⟨?_, ?_⟩ <;> omega))) rfl ?_ | refine run_gop rfl rfl gdI.ok (fun hg => loc_subW rfl rfl) rfl ?_
   refine run_gop rfl rfl gdI.ok (fun hg => loc_fieldAddr rfl) rfl ?_
   refine run_gop rfl rfl gdI.ok (fun hg => loc_load1 rfl) rfl ?_
   refine run_gop rfl rfl gdI.ok (fun hg => loc_gtr rfl rfl) rfl ?_
   refine run_gleave ?_
   refine run_op (loc_or rfl rfl) rfl ?_
   refine run_nil ?_
   refine run_cond rfl (fun h2 => ?_) (fun h2 => ?_)
   ·
    have c2 := h2
    refine run_seq ?_
    refine run_region ?_
    refine run_op (loc_assign rfl) rfl ?_
    refine run_nil ?_
    refine run_retP Tryz.func145 rfl rfl ?_
    exact d_int (by unfold codE; rw [if_neg c1, if_pos (by omega)])
   ·
    have c2 := h2
    refine run_skip ?_
    refine run_seq ?_
    refine run_region ?_
    refine run_op (loc_assign rfl) rfl ?_
    refine run_nil ?_
    refine run_retP Tryz.func145 rfl rfl ?_
    exact d_int (by unfold codE; rw [if_neg c1, if_neg (by omega)])
end Go.Q

namespace Go.Q
open Go.Proofs
open Classical
theorem groups1_iter (rows : List (List Int)) (g : Int) (hg : 1 ≤ g ∧ g ≤ 100) (hl : rows.length ≤ 1024) : ∀ (I : Imm) (lb : List Value), relL [dBox [dInt .i64 g], dBox [dRows rows]] I lb → IterOk Tryz.prog 176 lb (α := Nat × List (List Int)) (fun q => [dInt .i64 (q.1 : Nat), dRows q.2]) (grpL rows g.toNat) ([]) I := by
  refine iter_of_body Tryz.func176 rfl rfl (fun l σ φ Mo F s0 I h0 hy => ?_)
  refine run_seq ?_
  refine run_region ?_
  refine run_op (loc_assign rfl) rfl ?_
  refine run_nil ?_
  refine run_block ?_
  refine run_loopE (σ := Nat × σ) (ks := [0, 1, 2]) (.cons rfl (.cons rfl (.cons rfl (.nil)))) (fun t => [(4, dInt .i64 (t.1 : Nat))]) (fun t => Mo t.1 t.2 ++ F) (fun t => t.1 ≤ grpN rows.length g.toNat ∧ φ t.1 t.2) (fun t => rows.length - t.1) ((0, s0)) (⟨Nat.zero_le _, h0⟩) (.cons rfl (by first | exact fun _ _ h => h | exact d_int (by omega) | exact d_int (by simp) | exact d_intN (by omega) | exact d_any) .nil) (rfl) ?_
  rintro t ⟨hi, hs⟩ ih1
  have hgn : grpN rows.length g.toNat ≤ rows.length := by by_cases h : grpN rows.length g.toNat ≤ rows.length; (· exact h); (· exfalso; have := (grpN_lt (n := rows.length) (g := g.toNat) (i := rows.length) (by omega)).1 (by omega); have := Nat.le_mul_of_pos_right rows.length (show 0 < g.toNat by omega); omega)
  have hm := mul_bd (a := (t.1 : Int)) (b := g) (A := 1024) (B := 100) (by omega) (by omega) (by omega) (by omega)
  have hmn : ((t.1 * g.toNat : Nat) : Int) = (t.1 : Int) * g := by rw [Int.natCast_mul, show ((g.toNat : Nat) : Int) = g by omega]
  have hm1 : ((t.1 : Int) + 1) * g = (t.1 : Int) * g + g := by rw [Int.add_mul, Int.one_mul]
  refine run_seq ?_
  refine run_seq ?_
  refine run_region ?_
  refine run_op (loc_move rfl) rfl ?_
  refine run_op (loc_load1 rfl) rfl ?_
  first | refine run_op (loc_mul rfl rfl (by first | omega | assumption | (refine ⟨?_, ?_⟩ <;> omega))) rfl ?_ | refine run_op (loc_mulW rfl rfl) rfl ?_
  refine run_op (loc_load1 rfl) rfl ?_
  first | refine runL_fact (s := 8) rfl (fun _ _ h => dSl_len h) (fun hlen2 => ?_) | skip
  refine run_op (loc_len rfl) rfl ?_
  refine run_op (loc_lss rfl rfl) rfl ?_
  refine run_nil ?_
  refine run_cond rfl (fun h3 => ?_) (fun h3 => ?_)
  ·
   have hlt := (grpN_lt (n := rows.length) (g := g.toNat) (i := t.1) (by omega)).2 (by omega)
   have hlo : ((t.1 : Int) * g).toNat = t.1 * g.toNat := by omega
   have hmin : (min (((t.1 : Int) + 1) * g) (rows.length : Int)).toNat = min ((t.1 + 1) * g.toNat) rows.length := by rw [Nat.add_mul, Nat.one_mul]; omega
   refine run_skip ?_
   refine run_seq ?_
   refine run_block ?_
   refine run_seq ?_
   refine run_region ?_
   refine run_op (loc_move rfl) rfl ?_
   refine run_op (loc_move rfl) rfl ?_
   refine run_op (loc_load1 rfl) rfl ?_
   refine run_op (loc_move rfl) rfl ?_
   refine run_op (loc_load1 rfl) rfl ?_
   first | refine run_op (loc_mul rfl rfl (by first | omega | assumption | (refine ⟨?_, ?_⟩ <;> omega))) rfl ?_ | refine run_op (loc_mulW rfl rfl) rfl ?_
   refine run_op (loc_move rfl) rfl ?_
   first | refine run_op (loc_add rfl rfl (by first | omega | assumption | (refine ⟨?_, ?_⟩ <;> omega))) rfl ?_ | refine run_op (loc_addW rfl rfl) rfl ?_
   refine run_op (loc_load1 rfl) rfl ?_
   first | refine run_op (loc_mul rfl rfl (by first | omega | assumption | (refine ⟨?_, ?_⟩ <;> omega))) rfl ?_ | refine run_op (loc_mulW rfl rfl) rfl ?_
   refine run_op (loc_load1 rfl) rfl ?_
   first | refine runL_fact (s := 23) rfl (fun _ _ h => dSl_len h) (fun hlen4 => ?_) | skip
   refine run_op (loc_len rfl) rfl ?_
   refine run_op (loc_min rfl rfl) rfl ?_
   refine run_op (loc_slice rfl rfl rfl (by first | omega | assumption | (refine ⟨?_, ?_⟩ <;> omega))) rfl ?_
   refine run_yieldOp hy (i := t.1) (x := (t.1, (rows.take (min ((t.1 + 1) * g.toNat) rows.length)).drop (t.1 * g.toNat))) (s := t.2) rfl rfl rfl (grpL_get (by omega) (by omega)) hs rfl (fun I us hr => by match us, hr with | [u1, u2], hr => exact ⟨hr.1, d_toRows (by rw [hlo, hmin]) (fun _ _ h => h) _ _ hr.2.1, trivial⟩) (fun s9 hs9 => ?_)
   refine run_op (loc_not rfl) rfl ?_
   refine run_nil ?_
   refine run_cond rfl (fun h5 => ?_) (fun h5 => ?_)
   · exfalso; simp at h5
   ·
    refine run_skip ?_
    refine run_inBlock ?_
    refine run_region ?_
    refine run_op (loc_move rfl) rfl ?_
    first | refine run_op (loc_add rfl rfl (by first | omega | assumption | (refine ⟨?_, ?_⟩ <;> omega))) rfl ?_ | refine run_op (loc_addW rfl rfl) rfl ?_
    refine run_op (loc_assign rfl) rfl ?_
    refine run_nil ?_
    exact run_againE ih1 ((t.1 + 1, s9)) (⟨by simp only; omega, hs9⟩) (by simp only; omega) (.cons rfl (by first | exact fun _ _ h => h | exact d_int (by omega) | exact d_int (by simp) | exact d_intN (by omega) | exact d_any) .nil) (.cons rfl (fun _ _ x => x) (.cons rfl (fun _ _ x => x) (.cons rfl (fun _ _ x => x) (.nil)))) (rfl)
  ·
   have hnl : ¬ t.1 < grpN rows.length g.toNat := fun h => by have := (grpN_lt (n := rows.length) (g := g.toNat) (i := t.1) (by omega)).1 h; omega
   refine run_exit rfl ?_
   refine run_ret0End (t.2) Tryz.func176 rfl  ?_ (by rw [grpL_len, show grpN rows.length g.toNat = t.1 by omega]; exact hs) (fun _ _ h => by rw [grpL_len, show grpN rows.length g.toNat = t.1 by omega]; exact h)
   exact fun _ _ _ => trivial
theorem groups_spec (rows : List (List Int)) (g : Int) (hg : 1 ≤ g ∧ g ≤ 100) (hl : rows.length ≤ 1024) : SpecP Tryz.prog 147 [dRows rows, dInt .i64 g] (dSeq Tryz.prog (fun q : Nat × List (List Int) => [dInt .i64 (q.1 : Nat), dRows q.2]) (grpL rows g.toNat)) := by
 refine specP_of_body Tryz.func147 rfl rfl (fun I M => ?_)
 refine run_seq ?_
 refine run_region ?_
 refine run_op (loc_box1 rfl) rfl ?_
 refine run_op (loc_box1 rfl) rfl ?_
 refine run_op (loc_assign rfl) rfl ?_
 refine run_nil ?_
 refine run_seq ?_
 refine run_region ?_
 refine run_op (loc_makeFunc rfl) rfl ?_
 refine run_op (loc_assign rfl) rfl ?_
 refine run_nil ?_
 refine run_retP Tryz.func147 rfl rfl ?_
 exact clo_seq (groups1_iter rows g hg hl)
theorem holdM_spec (p s d g wd j : Int) (rows : List (List Int)) : Spec Tryz.prog 109 [dAgg [dInt .i64 p], dAgg [dInt .i64 s, dInt .i64 d, dInt .i64 g], dInt .i64 wd, dRows rows, dInt .i64 j] [] (σ := Value) (fun _ => True) (fun v => dTup [dVal v, dInt .i64 (holdE p s d g wd rows j)]) (fun v => [rRow v 44 1 fR (holdG p s d g wd rows j)]) := by
  refine spec_of_body Tryz.func109 rfl rfl (fun I F => ?_)
  refine run_seq ?_
  refine run_region ?_
  refine run_op (loc_boxN rfl) rfl ?_
  refine run_op (loc_boxN rfl) rfl ?_
  refine run_op (loc_box1 rfl) rfl ?_
  refine run_op (loc_box1 rfl) rfl ?_
  refine run_op (loc_assign rfl) rfl ?_
  refine run_op (loc_assign rfl) rfl ?_
  refine run_nil ?_
  refine run_seq ?_
  refine run_seq ?_
  refine run_region ?_
  refine run_op (loc_loadN rfl rfl) rfl ?_
  refine run_op (loc_loadN rfl rfl) rfl ?_
  refine run_op (loc_call (gcheck_spec _ _ _ _) rfl) rfl ?_
  refine run_op (loc_assign rfl) rfl ?_
  refine run_nil ?_
  refine run_seq ?_
  refine run_region ?_
  refine run_op (loc_move rfl) rfl ?_
  refine run_op (loc_neq rfl rfl) rfl ?_
  refine run_nil ?_
  refine run_cond rfl (fun h1 => ?_) (fun h1 => ?_)
  ·
   have c1 := h1
   refine run_seq ?_
   refine run_region ?_
   refine run_op (loc_move rfl) rfl ?_
   refine run_op (loc_assign rfl) rfl ?_
   refine run_op (loc_assign rfl) rfl ?_
   refine run_nil ?_
   have hE : holdE p s d g wd rows j = codE p s d g := by unfold holdE; rw [if_pos c1]
   refine run_ret2 (.slice none 0 0) Tryz.func109 rfl rfl rfl ?_ (trivial) (fun I w h => by rw [show holdG p s d g wd rows j = [] by unfold holdG; rw [if_neg (by rw [hE]; omega)]]; exact nil_ok ((fun _ _ h => h.sub (.refl _)) I w h))
   exact d_tup2 (fun _ _ h => h) (d_int hE.symm)
  ·
   have c1 := Classical.not_not.1 h1
   refine run_skip ?_
   refine run_seq ?_
   refine run_seq ?_
   refine run_region ?_
   refine run_op (loc_load1 rfl) rfl ?_
   refine run_op (loc_lss rfl rfl) rfl ?_
   refine run_op (loc_move rfl) rfl ?_
   refine run_gfirst rfl rfl gdI.ok (fun hg => loc_load1 rfl) rfl ?_
   refine run_gop rfl rfl gdI.ok (fun hg => loc_fieldAddr rfl) rfl ?_
   refine run_gop rfl rfl gdI.ok (fun hg => loc_load1 rfl) rfl ?_
   refine run_gop rfl rfl gdI.ok (fun hg => loc_gtr rfl rfl) rfl ?_
   refine run_gleave ?_
   refine run_op (loc_or rfl rfl) rfl ?_
   refine run_nil ?_
   refine run_cond rfl (fun h2 => ?_) (fun h2 => ?_)
   ·
    have c2 := h2
    refine run_seq ?_
    refine run_region ?_
    refine run_op (loc_assign rfl) rfl ?_
    refine run_op (loc_assign rfl) rfl ?_
    refine run_nil ?_
    have hE : holdE p s d g wd rows j = 1 := by unfold holdE; rw [if_neg (Classical.not_not.2 c1), if_pos (by omega)]
    refine run_ret2 (.slice none 0 0) Tryz.func109 rfl rfl rfl ?_ (trivial) (fun I w h => by rw [show holdG p s d g wd rows j = [] by unfold holdG; rw [if_neg (by rw [hE]; omega)]]; exact nil_ok ((fun _ _ h => h.sub (.refl _)) I w h))
    exact d_tup2 (fun _ _ h => h) (d_int hE.symm)
   ·
    have c2 := h2
    refine run_skip ?_
    refine run_seq ?_
    refine run_seq ?_
    refine run_region ?_
    refine run_op (loc_load1 rfl) rfl ?_
    refine run_op (loc_call (wide_spec _) rfl) rfl ?_
    refine run_op (loc_not rfl) rfl ?_
    refine run_op (loc_move rfl) rfl ?_
    refine run_gfirst rfl rfl gdI.ok (fun hg => loc_move rfl) rfl ?_
    refine run_gop rfl rfl gdI.ok (fun hg => loc_len rfl) rfl ?_
    refine run_gop rfl rfl gdI.ok (fun hg => loc_gtr rfl rfl) rfl ?_
    refine run_gleave ?_
    refine run_op (loc_or rfl rfl) rfl ?_
    refine run_nil ?_
    refine run_cond rfl (fun h3 => ?_) (fun h3 => ?_)
    ·
     have c3 := h3
     refine run_seq ?_
     refine run_region ?_
     refine run_op (loc_assign rfl) rfl ?_
     refine run_op (loc_assign rfl) rfl ?_
     refine run_nil ?_
     have hE : holdE p s d g wd rows j = 4 := by unfold holdE; rw [if_neg (Classical.not_not.2 c1), if_neg (by omega), if_pos (by omega)]
     refine run_ret2 (.slice none 0 0) Tryz.func109 rfl rfl rfl ?_ (trivial) (fun I w h => by rw [show holdG p s d g wd rows j = [] by unfold holdG; rw [if_neg (by rw [hE]; omega)]]; exact nil_ok ((fun _ _ h => h.sub (.refl _)) I w h))
     exact d_tup2 (fun _ _ h => h) (d_int hE.symm)
    ·
     have c3 := h3
     refine run_skip ?_
     refine run_seq ?_
     obtain ⟨hp, hs, hsp, hd, hg, hgd⟩ := codE_zero c1
     have hpb := hp.1
     have hpb2 := hp.2.1
     have hof : okP p := hp
     refine run_region ?_
     refine run_op (loc_fieldAddr rfl) rfl ?_
     refine run_op (loc_load1 rfl) rfl ?_
     refine run_new (loc_allocOwn (by simp)) rfl (fun b4 _ => ?_)
     refine run_store1 rfl rfl (.here) (by rfl) ?_
     refine run_nil ?_
     refine run_seq ?_
     refine run_seq ?_
     refine run_region ?_
     refine run_op (loc_move rfl) rfl ?_
     first | refine runL_fact (s := 46) rfl (fun _ _ h => dSl_len h) (fun hlen5 => ?_) | skip
     refine run_op (loc_len rfl) rfl ?_
     refine run_op (loc_move rfl) rfl ?_
     refine run_nil ?_
     refine run_block ?_
     refine run_loopC (σ := Nat) (ks := [3, 6, 7, 9, 13, 46, 47]) (.cons rfl (.cons rfl (.cons rfl (.cons rfl (.cons rfl (.cons rfl (.cons rfl (.nil)))))))) (fun k => [(48, dInt .i64 (k : Nat))]) (fun k => k ≤ rows.length ∧ (∀ i, i < k → rowErr p wd (rows[i]?.getD default) = 0)) (fun k => rows.length - k) (0) (⟨by omega, fun i hi => by omega⟩) (.cons rfl (by first | exact fun _ _ h => h | exact d_int (by omega) | exact d_int (by simp) | exact d_intN (by omega) | exact d_any) .nil) ?_
     rintro k ⟨hk, hbk⟩ ih6
     refine run_seq ?_
     refine run_region ?_
     refine run_op (loc_lss rfl rfl) rfl ?_
     refine run_nil ?_
     refine run_seq ?_
     refine run_cond rfl (fun h7 => ?_) (fun h7 => ?_)
     ·
      refine run_skip ?_
      refine run_seq ?_
      refine run_block ?_
      refine run_seq ?_
      refine run_region ?_
      first | refine run_op (loc_index rfl rfl (by first | omega | assumption)) rfl ?_ | refine run_op (loc_indexI rfl rfl (by first | omega | assumption)) rfl ?_
      refine run_op (loc_load1 rfl) rfl ?_
      refine run_op (loc_assign rfl) rfl ?_
      refine run_nil ?_
      refine run_seq ?_
      refine run_seq ?_
      refine run_region ?_
      refine run_op (loc_move rfl) rfl ?_
      first | refine runL_fact (s := 52) rfl (fun _ _ h => dSl_len h) (fun hlen8 => ?_) | skip
      refine run_op (loc_len rfl) rfl ?_
      refine run_op (loc_load1 rfl) rfl ?_
      refine run_op (loc_neq rfl rfl) rfl ?_
      refine run_nil ?_
      refine run_cond rfl (fun h9 => ?_) (fun h9 => ?_)
      ·
       refine run_seq ?_
       refine run_region ?_
       refine run_op (loc_assign rfl) rfl ?_
       refine run_op (loc_assign rfl) rfl ?_
       refine run_nil ?_
       have hE : holdE p s d g wd rows j = 2 := by unfold holdE; rw [if_neg (Classical.not_not.2 c1), if_neg (by omega), if_neg (by omega), firstErr_at (i := k) (by omega) hbk (by unfold rowErr; rw [if_pos (by omega)]; omega), rowErr, if_pos (by omega)]
       refine run_ret2 (.slice none 0 0) Tryz.func109 rfl rfl rfl ?_ (trivial) (fun I w h => by rw [show holdG p s d g wd rows j = [] by unfold holdG; rw [if_neg (by rw [hE]; omega)]]; exact nil_ok ((fun _ _ h => h.sub (.cons _ (.refl _))) I w h))
       exact d_tup2 (fun _ _ h => h) (d_int hE.symm)
      ·
       refine run_skip ?_
       refine run_seq ?_
       refine run_region ?_
       refine run_op (loc_loadOwn1 rfl (.here) (by rfl)) rfl ?_
       refine run_op (loc_move rfl) rfl ?_
       refine run_op (loc_call (all_spec _ _) rfl) rfl ?_
       refine run_op (loc_not rfl) rfl ?_
       refine run_nil ?_
       refine run_cond rfl (fun h10 => ?_) (fun h10 => ?_)
       ·
        have r9 : ¬ allP p (rows[k]?.getD default) := h10
        refine run_seq ?_
        refine run_region ?_
        refine run_op (loc_assign rfl) rfl ?_
        refine run_op (loc_assign rfl) rfl ?_
        refine run_nil ?_
        have hE : holdE p s d g wd rows j = 9 := by unfold holdE; rw [if_neg (Classical.not_not.2 c1), if_neg (by omega), if_neg (by omega), firstErr_at (i := k) (by omega) hbk (by unfold rowErr; rw [if_neg (by omega), if_pos r9]; omega), rowErr, if_neg (by omega), if_pos r9]
        refine run_ret2 (.slice none 0 0) Tryz.func109 rfl rfl rfl ?_ (trivial) (fun I w h => by rw [show holdG p s d g wd rows j = [] by unfold holdG; rw [if_neg (by rw [hE]; omega)]]; exact nil_ok ((fun _ _ h => h.sub (.cons _ (.refl _))) I w h))
        exact d_tup2 (fun _ _ h => h) (d_int hE.symm)
       ·
        have r9 : allP p (rows[k]?.getD default) := Classical.not_not.1 h10
        refine run_skip ?_
        refine run_inBlock ?_
        refine run_region ?_
        first | refine run_op (loc_add rfl rfl (by first | omega | assumption)) rfl ?_ | refine run_op (loc_addW rfl rfl) rfl ?_
        refine run_op (loc_move rfl) rfl ?_
        refine run_nil ?_
        exact run_againC ih6 (k + 1) (⟨by omega, fun i hi => by by_cases e : i = k; (· subst e; unfold rowErr; rw [if_neg (by omega), if_neg (Classical.not_not.2 r9)]); (· exact hbk i (by omega))⟩) (by omega) (.cons rfl (by first | exact fun _ _ h => h | exact d_int (by omega) | exact d_int (by simp) | exact d_intN (by omega) | exact d_any) .nil) (.cons rfl (fun _ _ x => x) (.cons rfl (fun _ _ x => x) (.cons rfl (fun _ _ x => x) (.cons rfl (fun _ _ x => x) (.cons rfl (fun _ _ x => x) (.cons rfl (fun _ _ x => x) (.cons rfl (fun _ _ x => x) (.nil))))))))
     ·
      refine run_exit rfl ?_
      refine run_seq ?_
      refine run_freezeCells (s := 13) rfl (.here) ?_
      have hE : holdE p s d g wd rows j = 0 := by unfold holdE; rw [if_neg (Classical.not_not.2 c1), if_neg (by omega), if_neg (by omega), firstErr_none' (fun i hi => hbk i (by omega))]
      have hall : ∀ r ∈ rows, (r.length : Int) = wd ∧ ∀ x ∈ r, hasP p x := by
        intro r hr
        obtain ⟨i, hi⟩ := List.getElem?_of_mem hr
        have h1 := hbk i (by have := (List.getElem?_eq_some_iff.1 hi).1; omega)
        rw [hi] at h1
        exact rowErr_ok h1
      refine run_region ?_
      refine run_new (loc_allocOwn (by simp)) rfl (fun b16 _ => ?_)
      refine run_nil ?_
      refine run_seq ?_
      refine run_seq ?_
      refine run_region ?_
      refine run_op (loc_move rfl) rfl ?_
      refine run_op (loc_fieldAddr rfl) rfl ?_
      refine run_op (loc_load1 rfl) rfl ?_
      refine run_op (loc_call (groups_spec _ _ ⟨by omega, by omega⟩ (by omega)) rfl) rfl ?_
      refine run_nil ?_
      refine run_block ?_
      refine run_rowNil 44 1 fR ?_
      refine run_cellsUp (kk := 0) (b := b16) (dVal (.slice none 0 0)) (dSlV (.slice none 0 0)) (.there (.here)) rfl (fun J u h => ⟨h, _, _, _, h⟩) ?_
      refine run_front (.here) ?_
      refine run_front (.there (.here)) ?_
      refine run_rangeFunc (σ := Value) (ps := [65, 66]) (fun i v0 => True) (fun i v0 => [rCells b16 30 [dSlV v0], rRow v0 44 1 fR (((grpL rows g.toNat).take i).map fun q => heldG p j wd.toNat q.2)]) (.slice none 0 0) rfl rfl rfl (fun _ => rfl) rfl (trivial) rfl (fun i x1 v0 l1 r1 F1 J hx1 hφ => ?_) (fun D v0 hφ => ?_)
      ·
       dsimp only [setP]
       have hmem := List.mem_of_getElem? hx1
       have hii := (List.getElem?_eq_some_iff.1 hx1).1
       obtain ⟨hgm, hgl⟩ := grpL_mem hmem
       have hml : (((grpL rows g.toNat).take i).map fun q => heldG p j wd.toNat q.2).length = i := by rw [List.length_map, List.length_take]; omega
       rw [grpL_len] at hii
       have hgn : grpN rows.length g.toNat ≤ rows.length := by by_cases h : grpN rows.length g.toNat ≤ rows.length; (· exact h); (· exfalso; have := (grpN_lt (n := rows.length) (g := g.toNat) (i := rows.length) (by omega)).1 (by omega); have := Nat.le_mul_of_pos_right rows.length (show 0 < g.toNat by omega); omega)
       refine run_region ?_
       refine run_op (loc_assign rfl) rfl ?_
       refine run_nil ?_
       refine run_beginR (.here) ?_
       refine run_block ?_
       refine run_seq ?_
       refine run_region ?_
       refine run_op (loc_load1 rfl) rfl ?_
       refine run_new (loc_makeSlice rfl rfl (by first | omega | assumption) (by first | omega | assumption) _ _ rfl (by simp)) rfl (fun b68 _ => ?_)
       refine run_op (loc_assign rfl) rfl ?_
       refine run_nil ?_
       refine run_seq ?_
       refine run_seq ?_
       refine run_region ?_
       refine run_op (loc_move rfl) rfl ?_
       first | refine runL_fact (s := 69) rfl (fun _ _ h => dSl_len h) (fun hlen12 => ?_) | skip
       refine run_op (loc_len rfl) rfl ?_
       refine run_op (loc_move rfl) rfl ?_
       refine run_nil ?_
       refine run_block ?_
       refine run_loopF (σ := Nat) (ks := [9, 13, 16, 19, 69, 70]) (.cons rfl (.cons rfl (.cons rfl (.cons rfl (.cons rfl (.cons rfl (.nil))))))) (fun k => [(71, dInt .i64 (k : Nat))]) (fun k => [rRow (.slice (some ⟨b68, 0, none⟩) wd.toNat wd.toNat) 3 1 fI (heldN p j wd.toNat x1.2 k)]) (fun k => k ≤ x1.2.length) (fun k => x1.2.length - k) (0) (Nat.zero_le _) (.cons rfl (by first | exact fun _ _ h => h | exact d_int (by omega) | exact d_int (by simp) | exact d_intN (by omega) | exact d_any) .nil) (rfl) ?_
       intro k hk ih13
       have hho := heldN_ok hpb j wd.toNat x1.2 k
       have hpw : 0 ≤ powM p j k ∧ powM p j k < p := mod_bd _ (by omega)
       refine run_seq ?_
       refine run_region ?_
       refine run_op (loc_lss rfl rfl) rfl ?_
       refine run_nil ?_
       refine run_seq ?_
       refine run_cond rfl (fun h14 => ?_) (fun h14 => ?_)
       ·
        have hrow := hgm (x1.2[k]?.getD default) (getD_mem (by omega))
        have hre := hall _ hrow
        refine run_skip ?_
        refine run_seq ?_
        refine run_block ?_
        refine run_seq ?_
        refine run_region ?_
        refine run_op (loc_move rfl) rfl ?_
        first | refine run_op (loc_index rfl rfl (by first | omega | assumption)) rfl ?_ | refine run_op (loc_indexI rfl rfl (by first | omega | assumption)) rfl ?_
        refine run_op (loc_load1 rfl) rfl ?_
        refine run_op (loc_assign rfl) rfl ?_
        refine run_op (loc_assign rfl) rfl ?_
        refine run_nil ?_
        refine dr_start _ (.none) [⟨[(13, none)], [], none⟩,
            ⟨[(19, none)], [], none⟩,
            ⟨[(13, none)], [], none⟩,
            ⟨[(9, none)], [], none⟩,
            ⟨[(20, none)], [], none⟩,
            ⟨[(78, some (2, false)), (79, some (3, false)), (80, some (4, false))], [2, 3, 4], none⟩,
            ⟨[(21, none)], [], none⟩,
            ⟨[(76, some (0, false)), (77, some (1, false)), (81, some (5, false)), (82, some (6, false))], [0, 1, 2, 3, 4, 5, 6], some (0, 0, true)⟩] [_, _, _, _] _ rfl rfl ?_
        refine dq_pure rfl (fun s => .g rfl (.nil)) (fun s hs _ => loc_load1 rfl) (by exact .nil) ?_
        refine dq_pure rfl (fun s => .g rfl (.nil)) (fun s hs _ => loc_move rfl) (by exact .nil) ?_
        refine dq_pure rfl (fun s => .g rfl (.nil)) (fun s hs _ => loc_load1 rfl) (by exact .nil) ?_
        refine dq_pure rfl (fun s => .g rfl (.nil)) (fun s hs _ => loc_load1 rfl) (by exact .nil) ?_
        refine dq_pure rfl (fun s => .g rfl (.nil)) (fun s hs _ => loc_move rfl) (by exact .nil) ?_
        refine dq_pure rfl (fun s => .op rfl (.op rfl (.op rfl (.nil)))) (fun s hs _ => loc_call (power_spec _ _ _ ⟨hpb, hpb2⟩ ⟨by omega, by omega⟩ (by omega)) rfl) (by exact .nil) ?_
        refine dq_pure rfl (fun s => .g rfl (.nil)) (fun s hs _ => loc_move rfl) (by exact .nil) ?_
        refine dq_write rfl (fun s => .op rfl (.op rfl (.op rfl (.op rfl (.nil))))) rfl rfl (fun s hs => loc_callM (addTimes_spec _ _ _ _ _ ⟨hpb, hpb2⟩ ⟨by omega, by omega⟩ hho.2 hre.2 (by rw [hho.1]; omega)) rfl) (by exact .nil) ?_
        refine dq_end (rs := [_, _, _, _]) () rfl (fun _ => rfl) (.nil) rfl (fun _ => rfl) (fun _ _ => ?_)
        dsimp only [outG, outM, List.map, List.set, id]
        refine run_inBlock ?_
        refine run_region ?_
        first | refine run_op (loc_add rfl rfl (by first | omega | assumption)) rfl ?_ | refine run_op (loc_addW rfl rfl) rfl ?_
        refine run_op (loc_move rfl) rfl ?_
        refine run_nil ?_
        exact run_againF ih13 (k + 1) (by omega) (by omega) (.cons rfl (by first | exact fun _ _ h => h | exact d_int (by omega) | exact d_int (by simp) | exact d_intN (by omega) | exact d_any) .nil) (.cons rfl (fun _ _ x => x) (.cons rfl (fun _ _ x => x) (.cons rfl (fun _ _ x => x) (.cons rfl (fun _ _ x => x) (.cons rfl (fun _ _ x => x) (.cons rfl (fun _ _ x => x) (.nil))))))) (by simp only [appR]; rw [heldN_snoc]; rfl)
       ·
        refine run_exit rfl ?_
        refine run_freezeRow (s := 19) rfl (.here) ?_
        refine run_region ?_
        first | refine run_op (LocP.upV (loc_loadOwn1 rfl (.there (.here)) (by rfl))) rfl ?_ | refine run_op (loc_loadOwn1 rfl (.there (.here)) (by rfl)) rfl ?_
        refine run_op (loc_move rfl) rfl ?_
        refine run_op (loc_buildSlice rfl rfl (.one rfl (.nil)) rfl rfl) rfl ?_
        refine run_append1 rfl (.there (.there (.here))) rfl (by rfl) (by rfl) (by first | omega | (simp [lenMax]; omega) | (simp [lenMax]; done) | assumption) (by first | omega | (simp [lenMax]; omega) | (simp [lenMax]; done) | assumption) rfl (fun v15 => ?_)
        refine runL_rowV (s := 88) rfl (.there (.there (.here))) ?_
        refine run_store1 rfl rfl (.there (.here)) (by rfl) ?_
        refine run_nil ?_
        refine run_inBlock ?_
        refine run_inv (M' := rBusy l1 r1 :: rCells b16 30 [dSlV v15] :: rRow v15 44 1 fR (((grpL rows g.toNat).take (i + 1)).map fun q => heldG p j wd.toNat q.2) :: F1) (fun I w h => by rw [List.take_add_one, hx1, List.map_append]; rw [show k = x1.2.length by omega] at h; exact h) ?_
        exact run_roundEnd (v15) (trivial) .here rfl
      ·
       refine run_inBlock ?_
       refine run_seq ?_
       refine run_region ?_
       first | refine run_op (LocP.upV (loc_loadOwn1 rfl (.there (.here)) (by rfl))) rfl ?_ | refine run_op (loc_loadOwn1 rfl (.there (.here)) (by rfl)) rfl ?_
       refine run_op (loc_assign rfl) rfl ?_
       refine run_op (loc_assign rfl) rfl ?_
       refine run_nil ?_
       refine run_retMk (v0) (.here) Tryz.func109 rfl (.tmp rfl (.tmp rfl (.nil))) ?_ (trivial) (fun I w h => by have h2 := h.sub (.cons _ (.refl _)); rw [List.take_of_length_le (Nat.le_refl _)] at h2; rw [show holdG p s d g wd rows j = (grpL rows g.toNat).map (fun q => heldG p j wd.toNat q.2) by unfold holdG; rw [if_pos hE]]; exact (show Inv I (rRow v0 44 1 fR _ :: F) w from h2))
       exact d_tup2 (fun _ _ h => h) (d_int hE.symm)
theorem hold_spec (p s d g wd j : Int) (rows : List (List Int)) : SpecP Tryz.prog 109 [dAgg [dInt .i64 p], dAgg [dInt .i64 s, dInt .i64 d, dInt .i64 g], dInt .i64 wd, dRows rows, dInt .i64 j] (dTup [dRows (holdG p s d g wd rows j), dInt .i64 (holdE p s d g wd rows j)]) := spec_freeze2 (holdM_spec p s d g wd j rows)
theorem tcheck_spec (t : Tab) : SpecP Tryz.prog 107 [dTab t] (dInt .i64 (checkT t)) := by
  refine specP_of_body Tryz.func107 rfl rfl (fun I M => ?_)
  refine run_seq ?_
  refine run_region ?_
  refine run_op (loc_boxN rfl) rfl ?_
  refine run_op (loc_assign rfl) rfl ?_
  refine run_nil ?_
  refine run_seq ?_
  refine run_region ?_
  refine run_op (loc_fieldAddr rfl) rfl ?_
  refine run_op (loc_loadN rfl rfl) rfl ?_
  refine run_op (loc_call (of_spec _) rfl) rfl ?_
  refine run_op (loc_move rfl) rfl ?_
  refine run_op (loc_extract rfl rfl) rfl ?_
  refine run_op (loc_extract rfl rfl) rfl ?_
  refine run_op (loc_assign rfl) rfl ?_
  refine run_op (loc_assign rfl) rfl ?_
  refine run_nil ?_
  refine run_seq ?_
  refine run_block ?_
  refine run_seq ?_
  refine run_region ?_
  refine run_op (loc_fieldAddr rfl) rfl ?_
  refine run_op (loc_load1 rfl) rfl ?_
  refine run_op (loc_lss rfl rfl) rfl ?_
  refine run_op (loc_move rfl) rfl ?_
  refine run_gfirst rfl rfl gdI.ok (fun hg => loc_fieldAddr rfl) rfl ?_
  refine run_gop rfl rfl gdI.ok (fun hg => loc_load1 rfl) rfl ?_
  refine run_gop rfl rfl gdI.ok (fun hg => loc_geq rfl rfl) rfl ?_
  refine run_gleave ?_
  refine run_op (loc_or rfl rfl) rfl ?_
  refine run_op (loc_assign rfl) rfl ?_
  refine run_nil ?_
  refine run_cond rfl (fun h1 => ?_) (fun h1 => ?_)
  ·
   have c1 := h1
   refine run_seq ?_
   refine run_region ?_
   refine run_op (loc_assign rfl) rfl ?_
   refine run_nil ?_
   refine run_retP Tryz.func107 rfl rfl ?_
   exact d_int (by unfold checkT; rw [if_pos c1])
  ·
   have c1 := h1
   refine run_seq ?_
   refine run_region ?_
   refine run_op (loc_move rfl) rfl ?_
   refine run_op (loc_not rfl) rfl ?_
   refine run_op (loc_assign rfl) rfl ?_
   refine run_nil ?_
   refine run_cond rfl (fun h2 => ?_) (fun h2 => ?_)
   ·
    have c2 := h2
    refine run_seq ?_
    refine run_region ?_
    refine run_op (loc_assign rfl) rfl ?_
    refine run_nil ?_
    refine run_retP Tryz.func107 rfl rfl ?_
    exact d_int (by unfold checkT; rw [if_neg c1, if_pos c2])
   ·
    have c2 := Classical.not_not.1 h2
    refine run_seq ?_
    refine run_region ?_
    refine run_op (loc_fieldAddr rfl) rfl ?_
    refine run_op (loc_load1 rfl) rfl ?_
    refine run_op (loc_lss rfl rfl) rfl ?_
    refine run_op (loc_move rfl) rfl ?_
    refine run_gfirst rfl rfl gdI.ok (fun hg => loc_fieldAddr rfl) rfl ?_
    refine run_gop rfl rfl gdI.ok (fun hg => loc_load1 rfl) rfl ?_
    refine run_gop rfl rfl gdI.ok (fun hg => loc_gtr rfl rfl) rfl ?_
    refine run_gleave ?_
    refine run_op (loc_or rfl rfl) rfl ?_
    refine run_op (loc_assign rfl) rfl ?_
    refine run_nil ?_
    refine run_cond rfl (fun h3 => ?_) (fun h3 => ?_)
    ·
     have c3 := h3
     refine run_seq ?_
     refine run_region ?_
     refine run_op (loc_assign rfl) rfl ?_
     refine run_nil ?_
     refine run_retP Tryz.func107 rfl rfl ?_
     exact d_int (by unfold checkT; rw [if_neg c1, if_neg (Classical.not_not.2 c2), if_pos c3])
    ·
     have c3 := h3
     refine run_seq ?_
     refine run_region ?_
     refine run_op (loc_fieldAddr rfl) rfl ?_
     refine run_op (loc_load1 rfl) rfl ?_
     first | refine runL_fact (s := 36) rfl (fun _ _ h => dSl_len h) (fun hlen4 => ?_) | skip
     refine run_op (loc_len rfl) rfl ?_
     refine run_op (loc_gtr rfl rfl) rfl ?_
     refine run_op (loc_assign rfl) rfl ?_
     refine run_nil ?_
     refine run_cond rfl (fun h5 => ?_) (fun h5 => ?_)
     ·
      have c4 := h5
      refine run_seq ?_
      refine run_region ?_
      refine run_op (loc_assign rfl) rfl ?_
      refine run_nil ?_
      refine run_retP Tryz.func107 rfl rfl ?_
      exact d_int (by unfold checkT; rw [if_neg c1, if_neg (Classical.not_not.2 c2), if_neg c3, if_pos (by omega)])
     ·
      have c4 := h5
      refine run_skip ?_
      refine run_inBlock ?_
      refine run_seq ?_
      refine run_seq ?_
      refine run_region ?_
      refine run_op (loc_fieldAddr rfl) rfl ?_
      refine run_op (loc_load1 rfl) rfl ?_
      first | refine runL_fact (s := 40) rfl (fun _ _ h => dSl_len h) (fun hlen6 => ?_) | skip
      refine run_op (loc_len rfl) rfl ?_
      refine run_op (loc_move rfl) rfl ?_
      refine run_nil ?_
      refine run_block ?_
      have hof : ofP t.p = t.p := by unfold ofP; rw [if_pos c2]
      rw [hof]
      refine run_loopC (σ := Nat) (ks := [1, 3, 40, 41]) (.cons rfl (.cons rfl (.cons rfl (.cons rfl (.nil))))) (fun k => [(42, dInt .i64 (k : Nat))]) (fun k => k ≤ t.rows.length ∧ (∀ j, j < k → rowErr t.p t.width (t.rows[j]?.getD default) = 0)) (fun k => t.rows.length - k) (0) (⟨by omega, fun j hj => by omega⟩) (.cons rfl (by first | exact fun _ _ h => h | exact d_int (by omega) | exact d_int (by simp) | exact d_intN (by omega) | exact d_any) .nil) ?_
      rintro k ⟨hk, hbk⟩ ih7
      replace c4 : ¬ 1024 < t.rows.length := by omega
      refine run_seq ?_
      refine run_region ?_
      refine run_op (loc_lss rfl rfl) rfl ?_
      refine run_nil ?_
      refine run_seq ?_
      refine run_cond rfl (fun h8 => ?_) (fun h8 => ?_)
      ·
       refine run_skip ?_
       refine run_seq ?_
       refine run_block ?_
       refine run_seq ?_
       refine run_region ?_
       first | refine run_op (loc_index rfl rfl (by first | omega | assumption)) rfl ?_ | refine run_op (loc_indexI rfl rfl (by first | omega | assumption)) rfl ?_
       refine run_op (loc_load1 rfl) rfl ?_
       refine run_op (loc_assign rfl) rfl ?_
       refine run_nil ?_
       refine run_seq ?_
       refine run_seq ?_
       refine run_region ?_
       refine run_op (loc_move rfl) rfl ?_
       first | refine runL_fact (s := 46) rfl (fun _ _ h => dSl_len h) (fun hlen9 => ?_) | skip
       refine run_op (loc_len rfl) rfl ?_
       refine run_op (loc_fieldAddr rfl) rfl ?_
       refine run_op (loc_load1 rfl) rfl ?_
       refine run_op (loc_neq rfl rfl) rfl ?_
       refine run_nil ?_
       refine run_cond rfl (fun h10 => ?_) (fun h10 => ?_)
       ·
        refine run_seq ?_
        refine run_region ?_
        refine run_op (loc_assign rfl) rfl ?_
        refine run_nil ?_
        refine run_retP Tryz.func107 rfl rfl ?_
        exact d_int (by unfold checkT; rw [if_neg c1, if_neg (Classical.not_not.2 c2), if_neg c3, if_neg c4, firstErr_at (i := k) (by omega) hbk (by unfold rowErr; rw [if_pos (by omega)]; omega), rowErr, if_pos (by omega)])
       ·
        refine run_skip ?_
        refine run_seq ?_
        refine run_region ?_
        refine run_op (loc_move rfl) rfl ?_
        refine run_op (loc_move rfl) rfl ?_
        refine run_op (loc_call (all_spec _ _) rfl) rfl ?_
        refine run_op (loc_not rfl) rfl ?_
        refine run_nil ?_
        refine run_cond rfl (fun h11 => ?_) (fun h11 => ?_)
        ·
         have r9 : ¬ allP t.p (t.rows[k]?.getD default) := h11
         refine run_seq ?_
         refine run_region ?_
         refine run_op (loc_assign rfl) rfl ?_
         refine run_nil ?_
         refine run_retP Tryz.func107 rfl rfl ?_
         exact d_int (by unfold checkT; rw [if_neg c1, if_neg (Classical.not_not.2 c2), if_neg c3, if_neg c4, firstErr_at (i := k) (by omega) hbk (by unfold rowErr; rw [if_neg (by omega), if_pos r9]; omega), rowErr, if_neg (by omega), if_pos r9])
        ·
         have r9 : allP t.p (t.rows[k]?.getD default) := Classical.not_not.1 h11
         refine run_skip ?_
         refine run_inBlock ?_
         refine run_region ?_
         first | refine run_op (loc_add rfl rfl (by first | omega | assumption)) rfl ?_ | refine run_op (loc_addW rfl rfl) rfl ?_
         refine run_op (loc_move rfl) rfl ?_
         refine run_nil ?_
         exact run_againC ih7 (k + 1) (⟨by omega, fun j hj => by by_cases e : j = k; (· subst e; unfold rowErr; rw [if_neg (by omega), if_neg (Classical.not_not.2 r9)]); (· exact hbk j (by omega))⟩) (by omega) (.cons rfl (by first | exact fun _ _ h => h | exact d_int (by omega) | exact d_int (by simp) | exact d_intN (by omega) | exact d_any) .nil) (.cons rfl (fun _ _ x => x) (.cons rfl (fun _ _ x => x) (.cons rfl (fun _ _ x => x) (.cons rfl (fun _ _ x => x) (.nil)))))
      ·
       refine run_exit rfl ?_
       refine run_seq ?_
       refine run_region ?_
       refine run_op (loc_assign rfl) rfl ?_
       refine run_nil ?_
       refine run_retP Tryz.func107 rfl rfl ?_
       exact d_int (by unfold checkT; rw [if_neg c1, if_neg (Classical.not_not.2 c2), if_neg c3, if_neg c4, firstErr_none' (fun j hj => hbk j (by omega))])
end Go.Q

namespace Go.Q
open Classical
def shapeS (s : Schm) : Prop := (2 ≤ s.servers ∧ s.servers ≤ 10) ∧ ((s.kind = 1 ∧ s.degree = 0 ∧ s.group = 0) ∨ (s.kind = 2 ∧ 1 ≤ s.degree ∧ s.degree ≤ s.servers - 1 ∧ s.group = 0) ∨ (s.kind = 3 ∧ 1 ≤ s.degree ∧ s.degree ≤ s.servers ∧ 1 ≤ s.group ∧ s.group ≤ s.servers ∧ 2 * s.group + s.degree - 1 ≤ s.servers))
def validS (s : Schm) (p : Int) : Prop := shapeS s ∧ okP p ∧ (s.kind = 1 ∨ s.servers < p)
noncomputable def unitsS (s : Schm) (n : Int) : Int := if ¬ shapeS s ∨ ¬ (1 ≤ n ∧ n ≤ 1024) then 0 else if s.kind = 3 then (n + s.group - 1) / s.group else n
theorem shape_bd {s : Schm} (h : shapeS s) : (2 ≤ s.servers ∧ s.servers ≤ 10) ∧ (0 ≤ s.degree ∧ s.degree ≤ 10) ∧ (0 ≤ s.group ∧ s.group ≤ 10) := by
 unfold shapeS at h
 omega
theorem shape_kind {s : Schm} (h : shapeS s) : s.kind = 1 ∨ s.kind = 2 ∨ s.kind = 3 := by
 unfold shapeS at h
 omega

noncomputable def hldE (s : Schm) (t : Tab) (j : Int) : Int := if checkT t ≠ 0 then checkT t else if ¬ validS s t.p then 40 else if ¬ (1 ≤ j ∧ j ≤ s.servers) then 1 else if s.kind = 3 then holdE t.p s.servers s.degree s.group t.width t.rows j else 0
noncomputable def hldL (s : Schm) (t : Tab) (j : Int) : List (List Int) := if checkT t ≠ 0 ∨ ¬ validS s t.p ∨ ¬ (1 ≤ j ∧ j ≤ s.servers) then [] else if s.kind = 3 then holdG t.p s.servers s.degree s.group t.width t.rows j else t.rows
theorem hld_no {a : Int} {b c : Prop} (h1 : a = 0) (h2 : b) (h3 : c) : ¬ (a ≠ 0 ∨ ¬ b ∨ ¬ c) := by
 rintro (h | h | h)
 ·exact h h1
 ·exact h h2
 ·exact h h3
theorem take_snocR {xs : List (List Int)} {k : Nat} (h : k < xs.length) : xs.take (k + 1) = xs.take k ++ [xs[k]?.getD default] := by
 rw [List.take_add_one, List.getElem?_eq_getElem h]; rfl
theorem un_no {A : Prop} {n : Int} (h : ¬ ((¬ A ∨ n < 1) ∨ 1024 < n)) : ¬ (¬ A ∨ ¬ (1 ≤ n ∧ n ≤ 1024)) := by
 rintro (h1 | h1)
 ·exact h (.inl (.inl h1))
 ·by_cases hh : n < 1
  ·exact h (.inl (.inr hh))
  ·exact h (.inr (by omega))
theorem un_yes {A : Prop} {n : Int} (h : (¬ A ∨ n < 1) ∨ 1024 < n) : ¬ A ∨ ¬ (1 ≤ n ∧ n ≤ 1024) := by
 rcases h with (h | h) | h
 ·exact .inl h
 ·exact .inr (by omega)
 ·exact .inr (by omega)
end Go.Q

namespace Go.Q
variable {P : Program} {N : Nat} {g : G} {M : List Res}
variable {dst : Option Tmp} {ty : TypeId} {pos : String} {after : Array Edge} {gd : Option (Nat × Bool)}
def dIface (t : TypeId) (d : D) : D := ⟨fun I v => ∃ u, v = .iface t u ∧ d.rel I u, fun h ⟨u, e, r⟩ => ⟨u, e, d.mono h r⟩⟩
instance (t : TypeId) (d : D) : One (dIface t d) := ⟨fun ⟨_, h, _⟩ => by rw [h]; exact ⟨rfl, rfl⟩⟩
class TyConc (P : Program) (t : TypeId) : Prop where
 eq : ∀ w : World, ∀ v, (Instr.makeInterface t v).run P w = .ok (.iface t v) w
class TyMeth (P : Program) (t : TypeId) (name : String) (f : FuncId) : Prop where
 eq : ∀ (w : World) (v : Value) (args : Array Value), (callMethod (.iface t v) name args).run P w = (callFunc f (#[v] ++ args)).run P w
end Go.Q

namespace Go.Q
variable {P : Program} {N : Nat} {g : G} {M : List Res}
variable {dst : Option Tmp} {ty : TypeId} {pos : String} {after : Array Edge} {gd : Option (Nat × Bool)}
class TyMap (P : Program) (t kt et : TypeId) : Prop where
 eq : P.underlying t = some (.map kt et)
 key : P.underlying kt = some (.int .i64)
end Go.Q
