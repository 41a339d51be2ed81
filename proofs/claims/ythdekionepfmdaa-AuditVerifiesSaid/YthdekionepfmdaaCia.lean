/- The cipher's small functions: what each call returns. -/
import Derived.Test.YthdekionepfmdaaBits
import Derived.Test.YthdekionepfmdaaRet
import Derived.Deep.DeepMust
set_option linter.unusedVariables false
set_option linter.unusedSimpArgs false
namespace Go.Proofs.Ythdekionepfmdaa
open Go.RowKit
attribute [local go_sem] bx64 bo64 w64_8 wa64 ws64 w8_64

set_option maxHeartbeats 400000 in
theorem rot_any (x : UInt64) (k : Int) (s : Nat) (hs : 0 < s) (hs' : s < 64) (hk : bits BinOp.and IntKind.u64 (IntKind.u64.wrap k) 63 = (s : Int)) (w : World) :
    Calls Try.prog 144 #[.int .u64 x.toNat, .int .i64 k] w fun e w' => e = .returned (.int .u64 (rotl x s).toNat) ∧ Mem w w' [] := by
  have HM := Mem.start w
  have h1 : IntKind.u64.wrap ((x.toNat : Int) * 2 ^ s) = ((shlU x s).toNat : Int) := shl64 x s hs'
  have h2 : (x.toNat : Int) / 2 ^ (64 - s) = ((shrU x (64 - s)).toNat : Int) := shr64 x (64 - s) (by omega)
  go_enter Try.func144, Try.ntmps144
  go_wp2_with (fail)
  go_ret
  exact ⟨rfl, HM⟩
theorem rot_m8 (x : UInt64) (w : World) : Calls Try.prog 144 #[.int .u64 x.toNat, .int .i64 (-8)] w fun e w' => e = .returned (.int .u64 (rotl x 56).toNat) ∧ Mem w w' [] :=
  rot_any x (-8) 56 (by decide) (by decide) (by decide) w
theorem rot_3 (x : UInt64) (w : World) : Calls Try.prog 144 #[.int .u64 x.toNat, .int .i64 3] w fun e w' => e = .returned (.int .u64 (rotl x 3).toNat) ∧ Mem w w' [] :=
  rot_any x 3 3 (by decide) (by decide) (by decide) w
theorem rot_m3 (x : UInt64) (w : World) : Calls Try.prog 144 #[.int .u64 x.toNat, .int .i64 (-3)] w fun e w' => e = .returned (.int .u64 (rotl x 61).toNat) ∧ Mem w w' [] :=
  rot_any x (-3) 61 (by decide) (by decide) (by decide) w
theorem rot_8 (x : UInt64) (w : World) : Calls Try.prog 144 #[.int .u64 x.toNat, .int .i64 8] w fun e w' => e = .returned (.int .u64 (rotl x 8).toNat) ∧ Mem w w' [] :=
  rot_any x 8 8 (by decide) (by decide) (by decide) w

set_option maxHeartbeats 400000 in
theorem round_c (p : UInt64 × UInt64) (k : UInt64) (w : World) :
    Calls Try.prog 108 #[pairV p, .int .u64 k.toNat] w fun e w' => e = .returned (pairV (roundF p k)) ∧ Mem w w' [] := by
  obtain ⟨x, y⟩ := p
  have HM := Mem.start w
  go_enter Try.func108, Try.ntmps108
  go_wp2_with (first
    | ((with_reducible refine s_ 2 ?_); go_must (refine wl_box (dst := some 2) (cs := #[.int .u64 x.toNat, .int .u64 y.toNat]) _ _ _ rfl rfl HM ?_; clear HM; intro b2 W HM))
    | ((with_reducible refine s_ 4 ?_); go_must (refine wl_alloc (dst := some 4) (cs := #[Value.int IntKind.u64 0, Value.int IntKind.u64 0]) 161 _ Try.zeroValue161 rfl HM ?_; clear HM; intro b4 W HM)))
  replace HM := HM.drew
  refine wp_region_mixN (fun W => Held w W [.blk b2 #[.int .u64 x.toNat, .int .u64 y.toNat] 161]) (fun W => Held w W [.blk b2 #[.int .u64 x.toNat, .int .u64 y.toNat] 161]) (.cons (2, 0) (.cons (2, 1) (.cons (2, 3) (.cons (2, 4) (.cons (2, 6) (.cons (0, 2) (.cons (2, 5) (.cons (2, 7) (.cons (2, 8) .nil))))))))) [] (by kernel_rfl) (by kernel_rfl) (by kernel_rfl) (fun W h => Held.weak h (by simp)) (HM.held (by simp)) ?_
  revert HM; generalize World.drew _ = W; intro HM
  have HS1 : Held w W [.blk b2 #[.int .u64 x.toNat, .int .u64 y.toNat] 161] := HM.held (by simp)
  have HS2 : Held w W [.blk b2 #[.int .u64 x.toNat, .int .u64 y.toNat] 161] := HM.held (by simp)
  refine wm_q2 (i := 0) (v := ?v1_1) (some 6) rfl rfl rfl HS2 (fun W HS => ?y1_1) ?_
  case y1_1 => (go_simp; try with_reducible rfl)
  simp only [Act.put, List.getElem_toArray, List.getElem_cons_succ, List.getElem_cons_zero, List.setIfInBounds_toArray, List.set_cons_succ, List.set_cons_zero]
  refine wm_q2 (i := 1) (some 7) rfl rfl rfl HS2 (fun W HS => (by (exact ry_load_cell _ _ _ _ _ _ _ _ HS rfl m0 rfl Try.underlying109 rfl))) ?_
  simp only [Act.put, List.getElem_toArray, List.getElem_cons_succ, List.getElem_cons_zero, List.setIfInBounds_toArray, List.set_cons_succ, List.set_cons_zero]
  refine wm_q2 (i := 3) (v := ?v1_3) (some 9) rfl rfl rfl HS2 (fun W HS => ?y1_3) ?_
  case y1_3 => (go_simp; try with_reducible rfl)
  simp only [Act.put, List.getElem_toArray, List.getElem_cons_succ, List.getElem_cons_zero, List.setIfInBounds_toArray, List.set_cons_succ, List.set_cons_zero]
  refine wm_q2 (i := 4) (some 10) rfl rfl rfl HS2 (fun W HS => (by (exact ry_load_cell _ _ _ _ _ _ _ _ HS rfl m0 rfl Try.underlying109 rfl))) ?_
  simp only [Act.put, List.getElem_toArray, List.getElem_cons_succ, List.getElem_cons_zero, List.setIfInBounds_toArray, List.set_cons_succ, List.set_cons_zero]
  refine wm_q2 (i := 6) (v := ?v1_5) (some 12) rfl rfl rfl HS2 (fun W HS => ?y1_5) ?_
  case y1_5 => (go_simp; try with_reducible rfl)
  simp only [Act.put, List.getElem_toArray, List.getElem_cons_succ, List.getElem_cons_zero, List.setIfInBounds_toArray, List.set_cons_succ, List.set_cons_zero]
  refine wm_e0 (i := 2) rfl ?_
  go_wp2_with (first
    | (go_at_call 144; go_must (((with_reducible refine (rot_m8 _ _).mono ?_)); rintro e W ⟨rfl, HM'⟩; replace HM := HM.keep HM'.below; clear HM')))
  refine ⟨HM.held (by simp), ?_⟩
  clear HS1 HS2
  have HS1 : Held w W [.blk b2 #[.int .u64 x.toNat, .int .u64 y.toNat] 161] := HM.held (by simp)
  have HS2 : Held w W [.blk b2 #[.int .u64 x.toNat, .int .u64 y.toNat] 161] := HM.held (by simp)
  refine wm_q2 (i := 5) (v := ?v1_6) (some 11) rfl rfl rfl HS2 (fun W HS => ?y1_6) ?_
  case y1_6 => (go_simp; try with_reducible rfl)
  simp only [Act.put, List.getElem_toArray, List.getElem_cons_succ, List.getElem_cons_zero, List.setIfInBounds_toArray, List.set_cons_succ, List.set_cons_zero]
  refine wm_q2 (i := 7) (v := ?v1_7) (some 13) rfl rfl rfl HS2 (fun W HS => ?y1_7) ?_
  case y1_7 => (go_simp; try with_reducible rfl)
  simp only [Act.put, List.getElem_toArray, List.getElem_cons_succ, List.getElem_cons_zero, List.setIfInBounds_toArray, List.set_cons_succ, List.set_cons_zero]
  refine wm_q2 (i := 8) (v := ?v1_8) (some 5) rfl rfl rfl HS2 (fun W HS => ?y1_8) ?_
  case y1_8 => (go_simp; try with_reducible rfl)
  simp only [Act.put, List.getElem_toArray, List.getElem_cons_succ, List.getElem_cons_zero, List.setIfInBounds_toArray, List.set_cons_succ, List.set_cons_zero]
  refine wm_nilN ?_
  clear HS1 HS2
  go_wp2_with (first
    | ((with_reducible refine ld_ 109 ?_); go_must (refine wl_load_cell _ _ _ _ _ _ _ _ rfl HM (by repeat first | exact List.mem_cons_self .. | refine List.mem_cons_of_mem _ ?_) (by rfl) Try.underlying109 rfl ?_))
    | ((with_reducible refine st_ 161 ?_); go_must ((refine wl_store_blk _ _ _ _ _ _ _ rfl rfl HM .here sz161 rfl (by simp [Value.oneCell']) ?_); clear HM; intro W HM))
    | (go_at_call 144; go_must (((with_reducible refine (rot_3 _ _).mono ?_)); rintro e W ⟨rfl, HM'⟩; replace HM := HM.keep HM'.below; clear HM')))
  refine ret1 rfl (by (exact res_row HM rfl m0 Try.underlying161 rfl sz161)) rfl ?_
  exact ⟨rfl, HM.base⟩

set_option maxHeartbeats 400000 in
theorem back_c (p : UInt64 × UInt64) (k : UInt64) (w : World) :
    Calls Try.prog 147 #[pairV p, .int .u64 k.toNat] w fun e w' => e = .returned (pairV (backF p k)) ∧ Mem w w' [] := by
  obtain ⟨x, y⟩ := p
  have HM := Mem.start w
  go_enter Try.func147, Try.ntmps147
  go_wp2_with (first
    | ((with_reducible refine s_ 2 ?_); go_must (refine wl_box (dst := some 2) (cs := #[.int .u64 x.toNat, .int .u64 y.toNat]) _ _ _ rfl rfl HM ?_; clear HM; intro b2 W HM))
    | ((with_reducible refine s_ 4 ?_); go_must (refine wl_alloc (dst := some 4) (cs := #[Value.int IntKind.u64 0, Value.int IntKind.u64 0]) 161 _ Try.zeroValue161 rfl HM ?_; clear HM; intro b4 W HM))
    | ((with_reducible refine ld_ 109 ?_); go_must (refine wl_load_cell _ _ _ _ _ _ _ _ rfl HM (by repeat first | exact List.mem_cons_self .. | refine List.mem_cons_of_mem _ ?_) (by rfl) Try.underlying109 rfl ?_))
    | ((with_reducible refine st_ 161 ?_); go_must ((refine wl_store_blk _ _ _ _ _ _ _ rfl rfl HM .here sz161 rfl (by simp [Value.oneCell']) ?_); clear HM; intro W HM))
    | (go_at_call 144; go_must ((first | (with_reducible refine (rot_m3 _ _).mono ?_) | (with_reducible refine (rot_8 _ _).mono ?_)); rintro e W ⟨rfl, HM'⟩; replace HM := HM.keep HM'.below; clear HM')))
  refine ret1 rfl (by (exact res_row HM rfl m0 Try.underlying161 rfl sz161)) rfl ?_
  exact ⟨rfl, HM.base⟩
end Go.Proofs.Ythdekionepfmdaa
