/- The program's paths and proofs. -/
import Derived.Test.YthdekionepfmdaaRvb
set_option linter.unusedVariables false
set_option linter.unusedSimpArgs false
set_option maxRecDepth 8000
namespace Go.Proofs.Ythdekionepfmdaa
open Go.RowKit

def PathInv (l : List Key) (i : Nat) (l' : List Key) (i' : Nat) (acc : List Key) : Prop := pathL l i = pathL l' i' ++ acc.reverse
theorem PathInv.start (l : List Key) (i : Nat) : PathInv l i l i [] := by simp [PathInv]
theorem PathInv.lo {l l' acc : List Key} {i i' : Nat} (h : PathInv l i l' i' acc) (h2 : 2 ≤ l'.length) (hi : i' < splitN l'.length) : PathInv l i (l'.take (splitN l'.length)) i' (acc ++ [rootL (l'.drop (splitN l'.length))]) := by
  rw [PathInv, h, pathL_lo l' i' h2 hi]; simp
theorem PathInv.hi {l l' acc : List Key} {i i' : Nat} (h : PathInv l i l' i' acc) (h2 : 2 ≤ l'.length) (hi : ¬ i' < splitN l'.length) : PathInv l i (l'.drop (splitN l'.length)) (i' - splitN l'.length) (acc ++ [rootL (l'.take (splitN l'.length))]) := by
  rw [PathInv, h, pathL_hi l' i' h2 hi]; simp
theorem PathInv.done {l l' acc : List Key} {i i' : Nat} (h : PathInv l i l' i' acc) (h1 : l'.length ≤ 1) : acc.reverse = pathL l i := by
  rw [h, pathL_one l' i' h1]; simp

set_option maxHeartbeats 1600000 in
theorem prove_c (l : List Key) (i : Nat) (v : Value) (w : World) (hn : l.length ≤ 256) (hi : i < l.length) (hR : RdL encK 16 w v l) :
    Calls Try.prog 130 #[v, .int .i64 (i : Int)] w fun e w' => ∃ u, e = .returned u ∧ Mem w w' [.row u 23 16 (pathL l i).length ((pathL l i).flatMap encK)] := by
  have HM := Mem.start w
  go_enter Try.func130, Try.ntmps130
  go_wp2_with (fail)
  go_loopw [0, 1, 5] (fun lv iv o wr => ∃ (l' : List Key) (i' : Nat) (acc : List Key), i' < l'.length ∧ acc.length + l'.length ≤ l.length ∧ PathInv l i l' i' acc ∧ RdL encK 16 w lv l' ∧ iv = .int .i64 i' ∧ Mem w wr [.row o 23 16 acc.length (acc.flatMap encK)])
    (fun lv _ _ _ => lenOf lv)
  case atStart => exact ⟨l, i, [], hi, by simp, PathInv.start l i, hR, rfl, HM.nilrow _ _⟩
  case round =>
    clear HM
    obtain ⟨l', i', acc, hi', hlen, hP, hR', rfl, HM⟩ := hrel
    by_cases hlt : 1 < l'.length
    · have hb : (1 : Int) < (l'.length : Int) := by omega
      have hs := splitN_lt l'.length (by omega)
      have e : (((splitN l'.length : Nat) : Int)).toNat = splitN l'.length := Int.toNat_natCast _
      have hi1 : (0 : Int) ≤ ((splitN l'.length : Nat) : Int) := by omega
      have hi2 : ((splitN l'.length : Nat) : Int) ≤ (l'.length : Int) := by omega
      by_cases hlo : i' < splitN l'.length
      · have hb2 : (i' : Int) < ((splitN l'.length : Nat) : Int) := by omega
        go_wp2_with (first
          | ((with_reducible refine s_ 8 ?_); go_must ((refine wl_len (dst := some 8) _ _ _ _ 23 Try.underlying40 rfl (hR'.mem HM) ?_)))
          | ((with_reducible refine s_ 11 ?_); go_must ((refine wl_len (dst := some 11) _ _ _ _ 23 Try.underlying40 rfl (hR'.mem HM) ?_)))
          | (go_at_call 72; go_must (((with_reducible refine (split_c _ (by omega) (by omega) _).mono ?_)); rintro e W ⟨rfl, HM'⟩; replace HM := HM.keep HM'.below; clear HM')))
        replace HM := HM.drew
        refine wp_region_mixN (fun W => Held w W []) (fun W => Held w W []) (.cons (2, 0) (.cons (2, 1) (.cons (2, 2) (.cons (2, 3) (.cons (2, 7) (.cons (2, 8) (.cons (2, 9) (.cons (0, 4) (.cons (0, 5) (.cons (0, 6) (.cons (2, 10) (.cons (2, 11) .nil)))))))))))) [] (by kernel_rfl) (by kernel_rfl) (by kernel_rfl) (fun W h => Held.weak h (by simp)) (HM.held (by simp)) ?_
        revert HM; generalize World.drew _ = W; intro HM
        have HS1 : Held w W [] := HM.held (by simp)
        have HS2 : Held w W [] := HM.held (by simp)
        refine wm_q2 (i := 0) (v := ?v5_1) (some 16) rfl rfl rfl HS2 (fun W HS => ?y5_1) ?_
        case y5_1 => (go_simp; try with_reducible rfl)
        simp only [Act.put, List.getElem_toArray, List.getElem_cons_succ, List.getElem_cons_zero, List.setIfInBounds_toArray, List.set_cons_succ, List.set_cons_zero]
        refine wm_q2 (i := 1) (v := ?v5_2) (some 17) rfl rfl rfl HS2 (fun W HS => ?y5_2) ?_
        case y5_2 => (go_simp; try with_reducible rfl)
        simp only [Act.put, List.getElem_toArray, List.getElem_cons_succ, List.getElem_cons_zero, List.setIfInBounds_toArray, List.set_cons_succ, List.set_cons_zero]
        refine wm_q2 (i := 2) (v := ?v5_3) (some 18) rfl rfl rfl HS2 (fun W HS => ?y5_3) ?_
        case y5_3 => (go_simp; try with_reducible rfl)
        simp only [Act.put, List.getElem_toArray, List.getElem_cons_succ, List.getElem_cons_zero, List.setIfInBounds_toArray, List.set_cons_succ, List.set_cons_zero]
        (refine wm_q2x (i := 3) (some 19) rfl rfl rfl HS2 (ry_slice_lo _ 23 _ _ _ _ _ _ encK_len Try.underlying40 sz23 (hR'.mem HM) rfl rfl (by omega) (by omega)) ?_); intro v19 hv19
        simp only [Act.put, List.getElem_toArray, List.getElem_cons_succ, List.getElem_cons_zero, List.setIfInBounds_toArray, List.set_cons_succ, List.set_cons_zero]
        refine wm_q2 (i := 7) (v := ?v5_4) (some 23) rfl rfl rfl HS2 (fun W HS => ?y5_4) ?_
        case y5_4 => (go_simp; try with_reducible rfl)
        simp only [Act.put, List.getElem_toArray, List.getElem_cons_succ, List.getElem_cons_zero, List.setIfInBounds_toArray, List.set_cons_succ, List.set_cons_zero]
        refine wm_q2 (i := 8) (v := ?v5_5) (some 24) rfl rfl rfl HS2 (fun W HS => ?y5_5) ?_
        case y5_5 => (go_simp; try with_reducible rfl)
        simp only [Act.put, List.getElem_toArray, List.getElem_cons_succ, List.getElem_cons_zero, List.setIfInBounds_toArray, List.set_cons_succ, List.set_cons_zero]
        (refine wm_q2x (i := 9) (some 25) rfl rfl rfl HS2 (ry_slice_hi _ 23 _ _ _ _ _ _ encK_len Try.underlying40 sz23 (hR'.mem HM) rfl rfl (by omega) (by omega)) ?_); intro v25 hv25
        simp only [Act.put, List.getElem_toArray, List.getElem_cons_succ, List.getElem_cons_zero, List.setIfInBounds_toArray, List.set_cons_succ, List.set_cons_zero]
        refine wm_e0 (i := 4) rfl ?_
        go_wp2_with (first
          | (go_at_call 61; go_must (((with_reducible refine (root_c _ _ _ (hv19 _ (hR'.mem HM)) (by rw [List.length_drop]; omega)).mono ?_)); rintro e W ⟨rfl, HM'⟩; replace HM := HM.keep HM'.below; clear HM')))
        refine ⟨HM.held (by simp), ?_⟩
        clear HS1 HS2
        have HS1 : Held w W [] := HM.held (by simp)
        have HS2 : Held w W [] := HM.held (by simp)
        refine wm_e0 (i := 5) rfl ?_
        go_wp2_with (first
          | ((with_reducible refine s_ 21 ?_); go_must ((refine wl_slice1K (dst := some 21) _ _ _ _ _ Try.underlying40 Try.sizeOf23 Try.zeroValue23 kc_zero rfl HM ?_; clear HM; intro b21 W HM))))
        refine ⟨HM.held (by simp), ?_⟩
        clear HS1 HS2
        have HS1 : Held w W [] := HM.held (by simp)
        have HS2 : Held w W [] := HM.held (by simp)
        refine wm_e0 (i := 6) rfl ?_
        go_wp2_with (first
          | ((with_reducible refine s_ 22 ?_); go_must (refine wl_append (dst := some 22) (enc := encK) _ _ _ _ _ _ _ _ _ _ _ ([rootL (l'.drop (splitN l'.length))]) Try.underlying40 inf23 rfl (by decide) encK_len encK_one HM (.there .here) (RdL.of_blk (HM.blk m0) _ 1 rfl (by simp [kc_toList]) (by decide)) rfl rfl (by decide) (by simp; omega) ?_; clear HM; intro v22 W HM; try dsimp only at HM)))
        refine ⟨HM.held (by simp), ?_⟩
        clear HS1 HS2
        have HS1 : Held w W [] := HM.held (by simp)
        have HS2 : Held w W [] := HM.held (by simp)
        refine wm_q2 (i := 10) (v := ?v5_6) (some 5) rfl rfl rfl HS2 (fun W HS => ?y5_6) ?_
        case y5_6 => (go_simp; try with_reducible rfl)
        simp only [Act.put, List.getElem_toArray, List.getElem_cons_succ, List.getElem_cons_zero, List.setIfInBounds_toArray, List.set_cons_succ, List.set_cons_zero]
        refine wm_q2 (i := 11) (v := ?v5_7) (some 0) rfl rfl rfl HS2 (fun W HS => ?y5_7) ?_
        case y5_7 => (go_simp; try with_reducible rfl)
        simp only [Act.put, List.getElem_toArray, List.getElem_cons_succ, List.getElem_cons_zero, List.setIfInBounds_toArray, List.set_cons_succ, List.set_cons_zero]
        refine wm_nilN ?_
        clear HS1 HS2
        go_wp2_with (fail)
        have hP2 := hP.lo (by omega) hlo
        have hv25' := hv25 _ hR'
        rw [flat_snoc'] at HM
        go_roundw
        case rel => exact ⟨_, i', _, by rw [List.length_take]; omega, by rw [List.length_append, List.length_take]; simp; omega, hP2, hv25', rfl, by rw [List.length_append]; exact HM.tail⟩
        case measure =>
          rw [lenOf_rd hR', lenOf_rd hv25', List.length_take]; omega
      · have hb2 : ¬ (i' : Int) < ((splitN l'.length : Nat) : Int) := by omega
        have hw : IntKind.i64.wrap ((i' : Int) - ((splitN l'.length : Nat) : Int)) = ((i' - splitN l'.length : Nat) : Int) := by rw [IntKind.wrap_i64]; omega
        go_wp2_with (first
          | ((with_reducible refine s_ 8 ?_); go_must ((refine wl_len (dst := some 8) _ _ _ _ 23 Try.underlying40 rfl (hR'.mem HM) ?_)))
          | ((with_reducible refine s_ 11 ?_); go_must ((refine wl_len (dst := some 11) _ _ _ _ 23 Try.underlying40 rfl (hR'.mem HM) ?_)))
          | (go_at_call 72; go_must (((with_reducible refine (split_c _ (by omega) (by omega) _).mono ?_)); rintro e W ⟨rfl, HM'⟩; replace HM := HM.keep HM'.below; clear HM')))
        replace HM := HM.drew
        refine wp_region_mixN (fun W => Held w W []) (fun W => Held w W []) (.cons (2, 0) (.cons (2, 1) (.cons (2, 2) (.cons (2, 3) (.cons (2, 7) (.cons (2, 8) (.cons (2, 9) (.cons (2, 10) (.cons (2, 11) (.cons (2, 12) (.cons (0, 4) (.cons (0, 5) (.cons (0, 6) (.cons (2, 13) (.cons (2, 14) (.cons (2, 15) .nil)))))))))))))))) [] (by kernel_rfl) (by kernel_rfl) (by kernel_rfl) (fun W h => Held.weak h (by simp)) (HM.held (by simp)) ?_
        revert HM; generalize World.drew _ = W; intro HM
        have HS1 : Held w W [] := HM.held (by simp)
        have HS2 : Held w W [] := HM.held (by simp)
        refine wm_q2 (i := 0) (v := ?v6_8) (some 26) rfl rfl rfl HS2 (fun W HS => ?y6_8) ?_
        case y6_8 => (go_simp; try with_reducible rfl)
        simp only [Act.put, List.getElem_toArray, List.getElem_cons_succ, List.getElem_cons_zero, List.setIfInBounds_toArray, List.set_cons_succ, List.set_cons_zero]
        refine wm_q2 (i := 1) (v := ?v6_9) (some 27) rfl rfl rfl HS2 (fun W HS => ?y6_9) ?_
        case y6_9 => (go_simp; try with_reducible rfl)
        simp only [Act.put, List.getElem_toArray, List.getElem_cons_succ, List.getElem_cons_zero, List.setIfInBounds_toArray, List.set_cons_succ, List.set_cons_zero]
        refine wm_q2 (i := 2) (v := ?v6_10) (some 28) rfl rfl rfl HS2 (fun W HS => ?y6_10) ?_
        case y6_10 => (go_simp; try with_reducible rfl)
        simp only [Act.put, List.getElem_toArray, List.getElem_cons_succ, List.getElem_cons_zero, List.setIfInBounds_toArray, List.set_cons_succ, List.set_cons_zero]
        (refine wm_q2x (i := 3) (some 29) rfl rfl rfl HS2 (ry_slice_hi _ 23 _ _ _ _ _ _ encK_len Try.underlying40 sz23 (hR'.mem HM) rfl rfl (by omega) (by omega)) ?_); intro v29 hv29
        simp only [Act.put, List.getElem_toArray, List.getElem_cons_succ, List.getElem_cons_zero, List.setIfInBounds_toArray, List.set_cons_succ, List.set_cons_zero]
        refine wm_q2 (i := 7) (v := ?v6_11) (some 33) rfl rfl rfl HS2 (fun W HS => ?y6_11) ?_
        case y6_11 => (go_simp; try with_reducible rfl)
        simp only [Act.put, List.getElem_toArray, List.getElem_cons_succ, List.getElem_cons_zero, List.setIfInBounds_toArray, List.set_cons_succ, List.set_cons_zero]
        refine wm_q2 (i := 8) (v := ?v6_12) (some 34) rfl rfl rfl HS2 (fun W HS => ?y6_12) ?_
        case y6_12 => (go_simp; try with_reducible rfl)
        simp only [Act.put, List.getElem_toArray, List.getElem_cons_succ, List.getElem_cons_zero, List.setIfInBounds_toArray, List.set_cons_succ, List.set_cons_zero]
        (refine wm_q2x (i := 9) (some 35) rfl rfl rfl HS2 (ry_slice_lo _ 23 _ _ _ _ _ _ encK_len Try.underlying40 sz23 (hR'.mem HM) rfl rfl (by omega) (by omega)) ?_); intro v35 hv35
        simp only [Act.put, List.getElem_toArray, List.getElem_cons_succ, List.getElem_cons_zero, List.setIfInBounds_toArray, List.set_cons_succ, List.set_cons_zero]
        refine wm_q2 (i := 10) (v := ?v6_13) (some 36) rfl rfl rfl HS2 (fun W HS => ?y6_13) ?_
        case y6_13 => (go_simp; try with_reducible rfl)
        simp only [Act.put, List.getElem_toArray, List.getElem_cons_succ, List.getElem_cons_zero, List.setIfInBounds_toArray, List.set_cons_succ, List.set_cons_zero]
        refine wm_q2 (i := 11) (v := ?v6_14) (some 37) rfl rfl rfl HS2 (fun W HS => ?y6_14) ?_
        case y6_14 => (go_simp; try with_reducible rfl)
        simp only [Act.put, List.getElem_toArray, List.getElem_cons_succ, List.getElem_cons_zero, List.setIfInBounds_toArray, List.set_cons_succ, List.set_cons_zero]
        refine wm_q2 (i := 12) (v := ?v6_15) (some 38) rfl rfl rfl HS2 (fun W HS => ?y6_15) ?_
        case y6_15 => (go_simp; try with_reducible rfl)
        simp only [Act.put, List.getElem_toArray, List.getElem_cons_succ, List.getElem_cons_zero, List.setIfInBounds_toArray, List.set_cons_succ, List.set_cons_zero]
        refine wm_e0 (i := 4) rfl ?_
        go_wp2_with (first
          | (go_at_call 61; go_must (((with_reducible refine (root_c _ _ _ (hv29 _ (hR'.mem HM)) (by rw [List.length_take]; omega)).mono ?_)); rintro e W ⟨rfl, HM'⟩; replace HM := HM.keep HM'.below; clear HM')))
        refine ⟨HM.held (by simp), ?_⟩
        clear HS1 HS2
        have HS1 : Held w W [] := HM.held (by simp)
        have HS2 : Held w W [] := HM.held (by simp)
        refine wm_e0 (i := 5) rfl ?_
        go_wp2_with (first
          | ((with_reducible refine s_ 31 ?_); go_must ((refine wl_slice1K (dst := some 31) _ _ _ _ _ Try.underlying40 Try.sizeOf23 Try.zeroValue23 kc_zero rfl HM ?_; clear HM; intro b31 W HM))))
        refine ⟨HM.held (by simp), ?_⟩
        clear HS1 HS2
        have HS1 : Held w W [] := HM.held (by simp)
        have HS2 : Held w W [] := HM.held (by simp)
        refine wm_e0 (i := 6) rfl ?_
        go_wp2_with (first
          | ((with_reducible refine s_ 32 ?_); go_must (refine wl_append (dst := some 32) (enc := encK) _ _ _ _ _ _ _ _ _ _ _ ([rootL (l'.take (splitN l'.length))]) Try.underlying40 inf23 rfl (by decide) encK_len encK_one HM (.there .here) (RdL.of_blk (HM.blk m0) _ 1 rfl (by simp [kc_toList]) (by decide)) rfl rfl (by decide) (by simp; omega) ?_; clear HM; intro v32 W HM; try dsimp only at HM)))
        refine ⟨HM.held (by simp), ?_⟩
        clear HS1 HS2
        have HS1 : Held w W [] := HM.held (by simp)
        have HS2 : Held w W [] := HM.held (by simp)
        refine wm_q2 (i := 13) (v := ?v6_16) (some 5) rfl rfl rfl HS2 (fun W HS => ?y6_16) ?_
        case y6_16 => (go_simp; try with_reducible rfl)
        simp only [Act.put, List.getElem_toArray, List.getElem_cons_succ, List.getElem_cons_zero, List.setIfInBounds_toArray, List.set_cons_succ, List.set_cons_zero]
        refine wm_q2 (i := 14) (v := ?v6_17) (some 0) rfl rfl rfl HS2 (fun W HS => ?y6_17) ?_
        case y6_17 => (go_simp; try with_reducible rfl)
        simp only [Act.put, List.getElem_toArray, List.getElem_cons_succ, List.getElem_cons_zero, List.setIfInBounds_toArray, List.set_cons_succ, List.set_cons_zero]
        refine wm_q2 (i := 15) (v := ?v6_18) (some 1) rfl rfl rfl HS2 (fun W HS => ?y6_18) ?_
        case y6_18 => (go_simp; try with_reducible rfl)
        simp only [Act.put, List.getElem_toArray, List.getElem_cons_succ, List.getElem_cons_zero, List.setIfInBounds_toArray, List.set_cons_succ, List.set_cons_zero]
        refine wm_nilN ?_
        clear HS1 HS2
        go_wp2_with (fail)
        have hP2 := hP.hi (by omega) hlo
        have hv35' := hv35 _ hR'
        rw [flat_snoc'] at HM
        go_roundw
        case rel => exact ⟨_, i' - splitN l'.length, _, by rw [List.length_drop]; omega, by rw [List.length_append, List.length_drop]; simp; omega, hP2, hv35', rfl, by rw [List.length_append]; exact HM.tail⟩
        case measure =>
          rw [lenOf_rd hR', lenOf_rd hv35', List.length_drop]; omega
    · have hb : ¬ (1 : Int) < (l'.length : Int) := by omega
      go_wp2_with (first
        | ((with_reducible refine s_ 8 ?_); go_must ((refine wl_len (dst := some 8) _ _ _ _ 23 Try.underlying40 rfl (hR'.mem HM) ?_)))
        | (go_at_call 73; go_must (((with_reducible refine (reverse_c w _ _ _ acc HM (by omega)).mono ?_)); rintro e W ⟨rfl, HM'⟩; clear HM; rename _ => HM)))
      refine ret1 rfl (res_tmp rfl) rfl ?_
      rw [← hP.done (by omega), List.length_reverse]
      exact ⟨_, rfl, HM⟩
end Go.Proofs.Ythdekionepfmdaa
