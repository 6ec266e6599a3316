/- The rules that turn what is owned, with the resource picked first: what is proved here holds of every program. -/
import Derived.Test.YtmapjpdgjefnoaaQKit2
set_option linter.unusedVariables false
set_option linter.unusedSimpArgs false
namespace Go.Q

variable {P : Program} {f : FuncId} {N : Nat} {I0 : Imm} {R : Ending → World → Prop} {g : G} {M : List Res} {k : List Item}
variable {ty : TypeId} {pos : String} {after : Array Edge} {ops : Array Oper} {rest : List Oper} {C : Res → List Res} {F : List Res} {x y : Operand} {dst : Tmp}

theorem run_store1 {t T : TypeId} [ht : TyV P t false 1] {b kk : Nat} {ds : List D} {d : D} [ho : One d] (hx : opd g x = some (dVal (ptr b kk))) (hy : opd g y = some d) (hs : Sel (rCells b T ds) M C F) (hk : Nat.blt kk ds.length = true)
    (h : RunL P f N I0 R g (C (rCells b T (ds.set kk d))) ops rest k) : RunL P f N I0 R g M ops (⟨none, .store t x y, ty, pos, after, none⟩ :: rest) k :=
  run_upd0 (loc_store1 hx hy hk) hs fun _ _ => h

theorem run_storeN {t T : TypeId} {n : Nat} [ht : TyV P t true n] {b kk : Nat} {ds es : List D} [ho : OneAll es] (hx : opd g x = some (dVal (ptr b kk))) (hy : opd g y = some (dAgg es)) (hs : Sel (rCells b T ds) M C F) (hk : (Nat.beq es.length n && Nat.ble (kk + n) ds.length) = true)
    (h : RunL P f N I0 R g (C (rCells b T (ds.take kk ++ es ++ ds.drop (kk + es.length)))) ops rest k) : RunL P f N I0 R g M ops (⟨none, .store t x y, ty, pos, after, none⟩ :: rest) k :=
  run_upd0 (loc_storeN hx hy hk) hs fun _ _ => h

section
variable {t e : TypeId} {bytes : Nat} {z : Value} {agg : Bool} {n : Nat} {α : Type} {f' : α → List D} {xs ys : List α} {v : Value}

theorem run_append [ht : TySl P t e] [hz : TyZ P e bytes z] [hv : TyV P e agg n] [h1 : ∀ x, OneAll (f' x)] (hx : opd g x = some (dVal v)) (hs : Sel (rRow v e n f' xs) M C F) (hy : opd g y = some (dSl n f' ys)) (hzn : z.cells.size = n)
    (hb : (xs.length + ys.length) * bytes ≤ 140737488355328) (hl : xs.length + ys.length ≤ lenMax) (hN : Nat.blt dst N = true) (h : ∀ v', RunL P f N I0 R ((dst, dVal v') :: g) (C (rRow v' e n f' (xs ++ ys))) ops rest k) :
    RunL P f N I0 R g M ops (⟨some dst, .call ⟨.builtin .append, #[x, y], #[t, t]⟩, ty, pos, after, none⟩ :: rest) k :=
  run_upd (loc_append hx hy hzn hb hl) hN hs fun v' _ => h v'

theorem run_append1 {ds : List D} {e0 : α} [ht : TySl P t e] [hz : TyZ P e bytes z] [hv : TyV P e agg n] [h1 : ∀ x, OneAll (f' x)] (hx : opd g x = some (dVal v)) (hs : Sel (rRow v e n f' xs) M C F) (hy : opd g y = some (dSl n (fun l : List D => l) [ds])) (he : f' e0 = ds) (hzn : z.cells.size = n)
    (hb : (xs.length + 1) * bytes ≤ 140737488355328) (hl : xs.length + 1 ≤ lenMax) (hN : Nat.blt dst N = true) (h : ∀ v', RunL P f N I0 R ((dst, dVal v') :: g) (C (rRow v' e n f' (xs ++ [e0]))) ops rest k) :
    RunL P f N I0 R g M ops (⟨some dst, .call ⟨.builtin .append, #[x, y], #[t, t]⟩, ty, pos, after, none⟩ :: rest) k :=
  run_upd (loc_append1 e0 hx hy he hzn hb hl) hN hs fun v' _ => h v'
end

theorem run_storeRow1 {t T : TypeId} [ht : TyV P t false 1] {α : Type} {xs : List α} {b len cap i : Nat} {d : α → D} {d0 : D} {e0 : α} [ho : One d0] (hx : opd g x = some (dVal (ptr b (i * 1)))) (hs : Sel (rRow (.slice (some ⟨b, 0, none⟩) len cap) T 1 (fun e => [d e]) xs) M C F) (hy : opd g y = some d0) (he : d e0 = d0) (hi : i < xs.length)
    (h : RunL P f N I0 R g (C (rRow (.slice (some ⟨b, 0, none⟩) len cap) T 1 (fun e => [d e]) (xs.set i e0))) ops rest k) : RunL P f N I0 R g M ops (⟨none, .store t x y, ty, pos, after, none⟩ :: rest) k :=
  run_upd0 (loc_storeRow1 e0 hx hy he hi) hs fun _ _ => h

/-- A call that turns one resource. -/
theorem run_callM {fn : FuncId} [hf : TyFn P fn] {xs : List Operand} {ats : Array TypeId} {Ds : List D} {r : Res} {σ : Type} {φ : σ → Prop} {d : σ → D} {r' : σ → Res} (hx : opds g xs = some Ds) (hs : Sel r M C F) (hsp : Spec P fn Ds [r] φ d (fun s => [r' s])) (hN : Nat.blt dst N = true)
    (h : ∀ s, φ s → RunL P f N I0 R ((dst, d s) :: g) (C (r' s)) ops rest k) : RunL P f N I0 R g M ops (⟨some dst, .call ⟨.value (.func fn), xs.toArray, ats⟩, ty, pos, after, none⟩ :: rest) k :=
  run_upd (loc_callM hsp hx) hN hs h

/-- A call that makes one resource. -/
theorem run_callN {fn : FuncId} [hf : TyFn P fn] {xs : List Operand} {ats : Array TypeId} {Ds : List D} {σ : Type} {φ : σ → Prop} {d : σ → D} {r' : σ → Res} (hx : opds g xs = some Ds) (hsp : Spec P fn Ds [] φ d (fun s => [r' s])) (hN : Nat.blt dst N = true)
    (h : ∀ s, φ s → RunL P f N I0 R ((dst, d s) :: g) (r' s :: M) ops rest k) : RunL P f N I0 R g M ops (⟨some dst, .call ⟨.value (.func fn), xs.toArray, ats⟩, ty, pos, after, none⟩ :: rest) k :=
  run_new (loc_callM hsp hx) hN h

end Go.Q
