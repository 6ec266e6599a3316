/- Unsigned numbers, shifts, masks: what is proved here holds of every program. -/
import Derived.Test.YtmapjpdgjefnoaaQWalk
import Derived.Test.YtmapjpdgjefnoaaQPlainL
import Derived.Laws.Bits64
import Derived.Laws.Shifts
set_option linter.unusedVariables false
set_option linter.unusedSimpArgs false
namespace Go.Q
variable {P : Program} {g : G} {N : Nat} {M : List Res} {dst : Option Tmp} {ty : TypeId} {pos : String} {after : Array Edge} {gd : Option (Nat × Bool)} {t t' : TypeId} {x y : Operand} {k kd : IntKind} {m n : Int}

theorem u64_in {m : Int} (h : 0 ≤ m ∧ m < 18446744073709551616) : IntKind.u64.wrap m = m := by rw [IntKind.wrap_u64]; omega

theorem loc_convU {s : TypeId} {k0 : IntKind} [h1 : TyInt P s k0] [h2 : TyInt P t .u64] (hx : opd g x = some (dInt kd m)) (h : 0 ≤ m ∧ m < 18446744073709551616) : LocP P ⟨dst, .convert s t x, ty, pos, after, gd⟩ g N M (dInt .u64 m) :=
  (loc_convW hx).conv (by rw [u64_in h])
theorem loc_addU (hx : opd g x = some (dInt .u64 m)) (hy : opd g y = some (dInt .u64 n)) (h : 0 ≤ m + n ∧ m + n < 18446744073709551616) : LocP P ⟨dst, .binOp .add t x y t', ty, pos, after, gd⟩ g N M (dInt .u64 (m + n)) :=
  (loc_addW hx hy).conv (by rw [u64_in h])
theorem loc_subU (hx : opd g x = some (dInt .u64 m)) (hy : opd g y = some (dInt .u64 n)) (h : 0 ≤ m - n ∧ m - n < 18446744073709551616) : LocP P ⟨dst, .binOp .sub t x y t', ty, pos, after, gd⟩ g N M (dInt .u64 (m - n)) :=
  (loc_subW hx hy).conv (by rw [u64_in h])
theorem loc_mulU (hx : opd g x = some (dInt .u64 m)) (hy : opd g y = some (dInt .u64 n)) (h : 0 ≤ m * n ∧ m * n < 18446744073709551616) : LocP P ⟨dst, .binOp .mul t x y t', ty, pos, after, gd⟩ g N M (dInt .u64 (m * n)) :=
  (loc_mulW hx hy).conv (by rw [u64_in h])

theorem loc_shr {c : Nat} (hx : opd g x = some (dInt k m)) (hy : opd g y = some (dInt kd (c : Nat))) (hc : (Nat.blt c 64 && Nat.blt c k.bits) = true) : LocP P ⟨dst, .binOp .shr t x y t', ty, pos, after, gd⟩ g N M (dInt k (m.fdiv (2 ^ c))) :=
  locP_of_run fun I a w hs _ => by
    have h1 : a.eval x = .int k m := opd_sound hs hx
    have h2 : a.eval y = .int kd c := opd_sound hs hy
    have e : eqGuard .shr t x y (.int k m) (.int kd c) = pure () := by unfold eqGuard; rfl
    simp only [Bool.and_eq_true, Nat.blt_eq] at hc
    have hn : ¬ ((c : Int) < 0) := by omega
    refine ⟨.int k (m.fdiv (2 ^ c)), ?_, rfl⟩
    have h3 : Int.toNat (c : Int) = c := by omega
    have h4 : (binOp .shr t (.int k m) (.int kd c)).run P w = .ok (.int k (m.fdiv (2 ^ c))) w := by
      simp only [binOp, Op.shift]
      rw [if_neg hn]
      simp [Nat.min_eq_left (Nat.le_of_lt hc.2)]
    simp [execOp, h1, h2, e, h4]

theorem loc_shrN {c : Nat} {q : Int} (hx : opd g x = some (dInt k m)) (hy : opd g y = some (dInt kd (c : Nat))) (hc : (Nat.blt c 64 && Nat.blt c k.bits) = true) (hq : (2 : Int) ^ c = q) (h : 0 ≤ m) (hq0 : 0 ≤ q) : LocP P ⟨dst, .binOp .shr t x y t', ty, pos, after, gd⟩ g N M (dInt k (m / q)) :=
  (loc_shr hx hy hc).conv (by rw [hq, Int.fdiv_eq_ediv_of_nonneg _ hq0])

theorem loc_mask32 (hx : opd g x = some (dInt .u64 m)) (hy : opd g y = some (dInt .u64 4294967295)) (h : 0 ≤ m ∧ m < 18446744073709551616) : LocP P ⟨dst, .binOp .and t x y t', ty, pos, after, gd⟩ g N M (dInt .u64 (m % 4294967296)) :=
  locP_of_run fun I a w hs _ => by
    refine ⟨_, run_binOp_int (opd_sound hs hx) (opd_sound hs hy) (by simp [binOp, Op.intBits]; rfl), ?_⟩
    obtain ⟨c, rfl⟩ := Int.eq_ofNat_of_zero_le h.1
    have e1 : (BitVec.ofInt 64 (c : Int)).toNat = c := by rw [BitVec.toNat_ofInt]; omega
    have e2 : (BitVec.ofInt 64 (4294967295 : Int)).toNat = 2 ^ 32 - 1 := by decide
    show Value.int .u64 (IntKind.u64.wrap ((BitVec.ofInt 64 (c : Int) &&& BitVec.ofInt 64 4294967295).toNat : Nat)) = _
    rw [BitVec.toNat_and, e1, e2, Nat.and_two_pow_sub_one_eq_mod, u64_in (by omega)]
    congr 1

end Go.Q
