/- '==' of two keys. -/
import Derived.Test.YthdekionepfmdaaPure
import Derived.Laws.StructEq
set_option linter.unusedVariables false
namespace Go.Proofs.Ythdekionepfmdaa
open Go.RowKit

theorem kc_at (k : Key) (i : Nat) (h : i < 16) : (kc k)[i]? = some (.int .u8 (k[i]).toNat) := by
  have := flatMap_at encB_len k.toList i k[i] (by simp [h]) 0 (by omega)
  simpa [kc, encK, encB] using this
theorem part_kc {P : Program} {e : TypeId} (he : P.underlying e = some (.int .u8)) (k : Key) (i : Nat) (h : i < 16) (w : World) : (part e (kc k) i).run P w = .ok (.int .u8 (k[i]).toNat) w := by
  have hc := kc_at k i h
  unfold part
  simp [run_isAgg he, TypeDesc.isRow, hc]

theorem run_eqB {P : Program} (d : Nat) {e : TypeId} (he : P.underlying e = some (.int .u8)) (x y : Int) (w : World) : (Op.equalIn (d + 1) e (.int .u8 x) (.int .u8 y)).run P w = .ok (x == y) w := by
  simp [Op.equalIn, run_underlying he]

theorem key_loop {P : Program} (d : Nat) {e : TypeId} (he : P.underlying e = some (.int .u8)) (a b : Key) (w : World) : ∀ (n s : Nat), s + n ≤ 16 →
    Sem.run P (forIn (List.range' s n) ((none : Option Bool), ()) fun i __s => do
            let __do_lift ← part e (kc a) (i * 1)
            let __do_lift_1 ← part e (kc b) (i * 1)
            let __do_lift ← Op.equalIn (d + 1) e __do_lift __do_lift_1
            if (!__do_lift) = true then pure (ForInStep.done (some false, ())) else pure (ForInStep.yield (none, ()))) w =
      .ok (if (a.toList.drop s).take n = (b.toList.drop s).take n then (none, ()) else (some false, ())) w := by
  intro n
  induction n with
  | zero => intro s _; simp
  | succ n ih =>
    intro s hs
    have h1 := part_kc he a s (by omega) w
    have h2 := part_kc he b s (by omega) w
    have ea : (a.toList.drop s).take (n + 1) = a[s] :: (a.toList.drop (s + 1)).take n := by
      rw [List.drop_eq_getElem_cons (by simp; omega), List.take_succ_cons]; simp
    have eb : (b.toList.drop s).take (n + 1) = b[s] :: (b.toList.drop (s + 1)).take n := by
      rw [List.drop_eq_getElem_cons (by simp; omega), List.take_succ_cons]; simp
    rw [ea, eb]
    simp only [List.range'_succ, List.forIn_cons, Sem.run_bind, Nat.mul_one, h1, h2, Result.andThen_ok, run_eqB d he]
    by_cases h : a[s] = b[s]
    · have hb : ((a[s].toNat : Int) == (b[s].toNat : Int)) = true := by simp [h]
      simp only [hb, Bool.not_true, Bool.false_eq_true, if_false, Sem.run_pure, Result.andThen_ok]
      have := ih (s + 1) (by omega)
      simp only [Nat.mul_one] at this
      rw [this]
      simp [h]
    · have hb : ((a[s].toNat : Int) == (b[s].toNat : Int)) = false := by
        rw [beq_eq_false_iff_ne]; intro e; exact h (UInt8.toNat_inj.1 (by omega))
      simp only [hb, Bool.not_false, if_true, Sem.run_pure, Result.andThen_ok]
      simp [h]

theorem run_eq_key {P : Program} (d : Nat) {T e : TypeId} (hT : P.underlying T = some (.array 16 e)) (he : P.underlying e = some (.int .u8)) (hs : ∀ w, (sizeOf e).run P w = .ok 1 w) (a b : Key) (w : World) :
    (Op.equalIn (d + 2) T (.agg (kc a)) (.agg (kc b))).run P w = .ok (decide (a = b)) w := by
  rw [Op.equalIn]
  simp only [Sem.run_bind, run_underlying hT, Result.andThen_ok, hs]
  rw [Std.Legacy.Range.forIn_eq_forIn_range']
  have := key_loop d he a b w 16 0 (by omega)
  simp only [List.drop_zero] at this
  have e1 : (List.take 16 a.toList) = a.toList := List.take_of_length_le (by simp)
  have e2 : (List.take 16 b.toList) = b.toList := List.take_of_length_le (by simp)
  rw [e1, e2] at this
  have e3 : List.range' [:16].start [:16].size [:16].step = List.range' 0 16 := by decide
  rw [e3, this]
  simp only [Result.andThen_ok]
  by_cases h : a = b
  · subst h; simp
  · have h' : ¬ a.toList = b.toList := fun e => h (Vector.toList_inj.1 e)
    simp [h, h']

/-- The two operations, as the walk meets them. -/
theorem run_keyEql {P : Program} {T e : TypeId} (hT : P.underlying T = some (.array 16 e)) (he : P.underlying e = some (.int .u8)) (hs : ∀ w, (sizeOf e).run P w = .ok 1 w) (hg : P.eqGuardType P.depth T = false) (x y : Operand) (a b : Key) (w : World) :
    (do eqGuard .eql T x y (.agg (kc a)) (.agg (kc b)); binOp .eql T (.agg (kc a)) (.agg (kc b)) : Sem Value).run P w = .ok (.bool (decide (a = b))) w := by
  have h1 := run_eq_key (P := P) 9998 hT he hs a b w
  simp [eqGuard, hg, binOp, Op.equal, Op.maxDepth, h1]
theorem run_keyNeq {P : Program} {T e : TypeId} (hT : P.underlying T = some (.array 16 e)) (he : P.underlying e = some (.int .u8)) (hs : ∀ w, (sizeOf e).run P w = .ok 1 w) (hg : P.eqGuardType P.depth T = false) (x y : Operand) (a b : Key) (w : World) :
    (do eqGuard .neq T x y (.agg (kc a)) (.agg (kc b)); binOp .neq T (.agg (kc a)) (.agg (kc b)) : Sem Value).run P w = .ok (.bool (decide (a ≠ b))) w := by
  have h1 := run_eq_key (P := P) 9998 hT he hs a b w
  simp [eqGuard, hg, binOp, Op.equal, Op.maxDepth, h1]
theorem guardKey : Try.prog.eqGuardType Try.prog.depth 23 = false := by kernel_rfl
end Go.Proofs.Ythdekionepfmdaa
