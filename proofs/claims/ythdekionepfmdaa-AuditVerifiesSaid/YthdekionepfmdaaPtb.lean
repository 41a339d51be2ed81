/- The reference's path. -/
import Derived.Test.YthdekionepfmdaaPta
set_option linter.unusedVariables false
set_option linter.unusedSimpArgs false
set_option maxRecDepth 8000
namespace Go.Proofs.Ythdekionepfmdaa
open Go.RowKit

set_option maxHeartbeats 1600000 in
theorem rpath_c : ∀ (n : Nat) (l : List Key) (i : Nat) (v : Value) (w : World), l.length = n → 1 ≤ n → n ≤ 256 → i < n → RdL encK 16 w v l →
    Calls Try.prog 131 #[v, .int .i64 (i : Int)] w fun e w' => ∃ u, e = .returned u ∧ Mem w w' [.row u 23 16 (pathL l i).length ((pathL l i).flatMap encK)] := by
  intro n
  induction n using Nat.strongRecOn with
  | ind n ih =>
    intro l i v w hln h1 hn hi hR
    subst hln
    have HM := Mem.start w
    by_cases hone : l.length = 1
    · have hb : (l.length : Int) = 1 := by omega
      clear ih
      go_enter Try.func131, Try.ntmps131
      go_wp2_with (first
        | ((with_reducible refine s_ 7 ?_); go_must ((refine wl_len (dst := some 7) _ _ _ _ 23 Try.underlying40 rfl (hR.mem HM) ?_))))
      refine ret1 rfl (res_tmp rfl) rfl ?_
      rw [pathL_one l i (by omega)]
      exact ⟨_, rfl, HM.nilrow _ _⟩
    · have hb : ¬ (l.length : Int) = 1 := by omega
      have hs := splitN_lt l.length (by omega)
      have e : (((splitN l.length : Nat) : Int)).toNat = splitN l.length := Int.toNat_natCast _
      have hi1 : (0 : Int) ≤ ((splitN l.length : Nat) : Int) := by omega
      have hi2 : ((splitN l.length : Nat) : Int) ≤ (l.length : Int) := by omega
      by_cases hlo : i < splitN l.length
      · have hb2 : (i : Int) < ((splitN l.length : Nat) : Int) := by omega
        have hpl := pathL_len (splitN l.length) (l.take (splitN l.length)) i (by rw [List.length_take]; omega)
        have hpe := pathL_lo l i (by omega) hlo
        go_enter Try.func131, Try.ntmps131
        go_wp2_with (first
          | ((with_reducible refine s_ 7 ?_); go_must ((refine wl_len (dst := some 7) _ _ _ _ 23 Try.underlying40 rfl (hR.mem HM) ?_)))
          | ((with_reducible refine s_ 10 ?_); go_must ((refine wl_len (dst := some 10) _ _ _ _ 23 Try.underlying40 rfl (hR.mem HM) ?_)))
          | (go_at_call 127; go_must (((with_reducible refine (rsplit_c _ (by omega) (by omega) _).mono ?_)); rintro e W ⟨rfl, HM'⟩; replace HM := HM.keep HM'.below; clear HM')))
        replace HM := HM.drew
        refine wp_region_mixN (fun W => Held w W []) (fun W => Held w W []) (.cons (2, 0) (.cons (2, 1) (.cons (2, 2) (.cons (2, 3) (.cons (2, 5) (.cons (2, 6) (.cons (2, 7) (.cons (0, 4) (.cons (0, 8) (.cons (0, 9) (.cons (0, 10) (.cons (2, 11) .nil)))))))))))) [] (by kernel_rfl) (by kernel_rfl) (by kernel_rfl) (fun W h => Held.weak h (by simp)) (HM.held (by simp)) ?_
        revert HM; generalize World.drew _ = W; intro HM
        have HS1 : Held w W [] := HM.held (by simp)
        have HS2 : Held w W [] := HM.held (by simp)
        refine wm_q2 (i := 0) (v := ?v5_1) (some 15) rfl rfl rfl HS2 (fun W HS => ?y5_1) ?_
        case y5_1 => (go_simp; try with_reducible rfl)
        simp only [Act.put, List.getElem_toArray, List.getElem_cons_succ, List.getElem_cons_zero, List.setIfInBounds_toArray, List.set_cons_succ, List.set_cons_zero]
        refine wm_q2 (i := 1) (v := ?v5_2) (some 16) rfl rfl rfl HS2 (fun W HS => ?y5_2) ?_
        case y5_2 => (go_simp; try with_reducible rfl)
        simp only [Act.put, List.getElem_toArray, List.getElem_cons_succ, List.getElem_cons_zero, List.setIfInBounds_toArray, List.set_cons_succ, List.set_cons_zero]
        (refine wm_q2x (i := 2) (some 17) rfl rfl rfl HS2 (ry_slice_hi _ 23 _ _ _ _ _ _ encK_len Try.underlying40 sz23 (hR.mem HM) rfl rfl (by omega) (by omega)) ?_); intro v17 hv17
        simp only [Act.put, List.getElem_toArray, List.getElem_cons_succ, List.getElem_cons_zero, List.setIfInBounds_toArray, List.set_cons_succ, List.set_cons_zero]
        refine wm_q2 (i := 3) (v := ?v5_3) (some 18) rfl rfl rfl HS2 (fun W HS => ?y5_3) ?_
        case y5_3 => (go_simp; try with_reducible rfl)
        simp only [Act.put, List.getElem_toArray, List.getElem_cons_succ, List.getElem_cons_zero, List.setIfInBounds_toArray, List.set_cons_succ, List.set_cons_zero]
        refine wm_q2 (i := 5) (v := ?v5_4) (some 20) rfl rfl rfl HS2 (fun W HS => ?y5_4) ?_
        case y5_4 => (go_simp; try with_reducible rfl)
        simp only [Act.put, List.getElem_toArray, List.getElem_cons_succ, List.getElem_cons_zero, List.setIfInBounds_toArray, List.set_cons_succ, List.set_cons_zero]
        refine wm_q2 (i := 6) (v := ?v5_5) (some 21) rfl rfl rfl HS2 (fun W HS => ?y5_5) ?_
        case y5_5 => (go_simp; try with_reducible rfl)
        simp only [Act.put, List.getElem_toArray, List.getElem_cons_succ, List.getElem_cons_zero, List.setIfInBounds_toArray, List.set_cons_succ, List.set_cons_zero]
        (refine wm_q2x (i := 7) (some 22) rfl rfl rfl HS2 (ry_slice_lo _ 23 _ _ _ _ _ _ encK_len Try.underlying40 sz23 (hR.mem HM) rfl rfl (by omega) (by omega)) ?_); intro v22 hv22
        simp only [Act.put, List.getElem_toArray, List.getElem_cons_succ, List.getElem_cons_zero, List.setIfInBounds_toArray, List.set_cons_succ, List.set_cons_zero]
        refine wm_e0 (i := 4) rfl ?_
        go_wp2_with (first
          | (go_at_call 131; go_must (((with_reducible refine (ih (splitN l.length) (by omega) _ i _ _ (by rw [List.length_take]; omega) (by omega) (by omega) (by omega) (hv17 _ (hR.mem HM))).mono ?_)); rintro e W ⟨u19, rfl, HM'⟩; replace HM := HM.join HM'; clear HM'; simp only [List.cons_append, List.nil_append] at HM)))
        refine ⟨HM.held (by simp), ?_⟩
        clear HS1 HS2
        have HS1 : Held w W [] := HM.held (by simp)
        have HS2 : Held w W [] := HM.held (by simp)
        refine wm_e0 (i := 8) rfl ?_
        go_wp2_with (first
          | (go_at_call 62; go_must (((with_reducible refine (rrootOf_c (l.length - splitN l.length) _ _ _ (by rw [List.length_drop]; omega) (by omega) (hv22 _ (hR.mem HM))).mono ?_)); rintro e W ⟨rfl, HM'⟩; replace HM := HM.keep HM'.below; clear HM')))
        refine ⟨HM.held (by simp), ?_⟩
        clear HS1 HS2
        have HS1 : Held w W [] := HM.held (by simp)
        have HS2 : Held w W [] := HM.held (by simp)
        refine wm_e0 (i := 9) rfl ?_
        go_wp2_with (first
          | ((with_reducible refine s_ 24 ?_); go_must ((refine wl_slice1K (dst := some 24) _ _ _ _ _ Try.underlying40 Try.sizeOf23 Try.zeroValue23 kc_zero rfl HM ?_; clear HM; intro b24 W HM))))
        refine ⟨HM.held (by simp), ?_⟩
        clear HS1 HS2
        have HS1 : Held w W [] := HM.held (by simp)
        have HS2 : Held w W [] := HM.held (by simp)
        refine wm_e0 (i := 10) rfl ?_
        go_wp2_with (first
          | ((with_reducible refine s_ 25 ?_); go_must (refine wl_append (dst := some 25) (enc := encK) _ _ _ _ _ _ _ _ _ _ _ ([rootL (l.drop (splitN l.length))]) Try.underlying40 inf23 rfl (by decide) encK_len encK_one HM (.there .here) (RdL.of_blk (HM.blk m0) _ 1 rfl (by simp [kc_toList]) (by decide)) rfl rfl (by decide) (by simp; omega) ?_; clear HM; intro v25 W HM; try dsimp only at HM)))
        refine ⟨HM.held (by simp), ?_⟩
        clear HS1 HS2
        have HS1 : Held w W [] := HM.held (by simp)
        have HS2 : Held w W [] := HM.held (by simp)
        refine wm_q2 (i := 11) (v := ?v5_6) (some 4) rfl rfl rfl HS2 (fun W HS => ?y5_6) ?_
        case y5_6 => (go_simp; try with_reducible rfl)
        simp only [Act.put, List.getElem_toArray, List.getElem_cons_succ, List.getElem_cons_zero, List.setIfInBounds_toArray, List.set_cons_succ, List.set_cons_zero]
        refine wm_nilN ?_
        clear HS1 HS2
        go_wp2_with (fail)
        refine ret1 rfl (res_tmp rfl) rfl ?_
        rw [hpe, List.length_append, List.flatMap_append]
        exact ⟨_, rfl, HM.only m1⟩
      · have hb2 : ¬ (i : Int) < ((splitN l.length : Nat) : Int) := by omega
        have hpl := pathL_len (l.length - splitN l.length) (l.drop (splitN l.length)) (i - splitN l.length) (by rw [List.length_drop])
        have hpe := pathL_hi l i (by omega) hlo
        have hw : IntKind.i64.wrap ((i : Int) - ((splitN l.length : Nat) : Int)) = ((i - splitN l.length : Nat) : Int) := by rw [IntKind.wrap_i64]; omega
        go_enter Try.func131, Try.ntmps131
        go_wp2_with (first
          | ((with_reducible refine s_ 7 ?_); go_must ((refine wl_len (dst := some 7) _ _ _ _ 23 Try.underlying40 rfl (hR.mem HM) ?_)))
          | ((with_reducible refine s_ 10 ?_); go_must ((refine wl_len (dst := some 10) _ _ _ _ 23 Try.underlying40 rfl (hR.mem HM) ?_)))
          | (go_at_call 127; go_must (((with_reducible refine (rsplit_c _ (by omega) (by omega) _).mono ?_)); rintro e W ⟨rfl, HM'⟩; replace HM := HM.keep HM'.below; clear HM')))
        replace HM := HM.drew
        refine wp_region_mixN (fun W => Held w W []) (fun W => Held w W []) (.cons (2, 0) (.cons (2, 1) (.cons (2, 2) (.cons (2, 3) (.cons (2, 4) (.cons (2, 5) (.cons (2, 7) (.cons (2, 8) (.cons (2, 9) (.cons (0, 6) (.cons (0, 10) (.cons (0, 11) (.cons (0, 12) (.cons (2, 13) .nil)))))))))))))) [] (by kernel_rfl) (by kernel_rfl) (by kernel_rfl) (fun W h => Held.weak h (by simp)) (HM.held (by simp)) ?_
        revert HM; generalize World.drew _ = W; intro HM
        have HS1 : Held w W [] := HM.held (by simp)
        have HS2 : Held w W [] := HM.held (by simp)
        refine wm_q2 (i := 0) (v := ?v6_1) (some 26) rfl rfl rfl HS2 (fun W HS => ?y6_1) ?_
        case y6_1 => (go_simp; try with_reducible rfl)
        simp only [Act.put, List.getElem_toArray, List.getElem_cons_succ, List.getElem_cons_zero, List.setIfInBounds_toArray, List.set_cons_succ, List.set_cons_zero]
        refine wm_q2 (i := 1) (v := ?v6_2) (some 27) rfl rfl rfl HS2 (fun W HS => ?y6_2) ?_
        case y6_2 => (go_simp; try with_reducible rfl)
        simp only [Act.put, List.getElem_toArray, List.getElem_cons_succ, List.getElem_cons_zero, List.setIfInBounds_toArray, List.set_cons_succ, List.set_cons_zero]
        (refine wm_q2x (i := 2) (some 28) rfl rfl rfl HS2 (ry_slice_lo _ 23 _ _ _ _ _ _ encK_len Try.underlying40 sz23 (hR.mem HM) rfl rfl (by omega) (by omega)) ?_); intro v28 hv28
        simp only [Act.put, List.getElem_toArray, List.getElem_cons_succ, List.getElem_cons_zero, List.setIfInBounds_toArray, List.set_cons_succ, List.set_cons_zero]
        refine wm_q2 (i := 3) (v := ?v6_3) (some 29) rfl rfl rfl HS2 (fun W HS => ?y6_3) ?_
        case y6_3 => (go_simp; try with_reducible rfl)
        simp only [Act.put, List.getElem_toArray, List.getElem_cons_succ, List.getElem_cons_zero, List.setIfInBounds_toArray, List.set_cons_succ, List.set_cons_zero]
        refine wm_q2 (i := 4) (v := ?v6_4) (some 30) rfl rfl rfl HS2 (fun W HS => ?y6_4) ?_
        case y6_4 => (go_simp; try with_reducible rfl)
        simp only [Act.put, List.getElem_toArray, List.getElem_cons_succ, List.getElem_cons_zero, List.setIfInBounds_toArray, List.set_cons_succ, List.set_cons_zero]
        refine wm_q2 (i := 5) (v := ?v6_5) (some 31) rfl rfl rfl HS2 (fun W HS => ?y6_5) ?_
        case y6_5 => (go_simp; try with_reducible rfl)
        simp only [Act.put, List.getElem_toArray, List.getElem_cons_succ, List.getElem_cons_zero, List.setIfInBounds_toArray, List.set_cons_succ, List.set_cons_zero]
        refine wm_q2 (i := 7) (v := ?v6_6) (some 33) rfl rfl rfl HS2 (fun W HS => ?y6_6) ?_
        case y6_6 => (go_simp; try with_reducible rfl)
        simp only [Act.put, List.getElem_toArray, List.getElem_cons_succ, List.getElem_cons_zero, List.setIfInBounds_toArray, List.set_cons_succ, List.set_cons_zero]
        refine wm_q2 (i := 8) (v := ?v6_7) (some 34) rfl rfl rfl HS2 (fun W HS => ?y6_7) ?_
        case y6_7 => (go_simp; try with_reducible rfl)
        simp only [Act.put, List.getElem_toArray, List.getElem_cons_succ, List.getElem_cons_zero, List.setIfInBounds_toArray, List.set_cons_succ, List.set_cons_zero]
        (refine wm_q2x (i := 9) (some 35) rfl rfl rfl HS2 (ry_slice_hi _ 23 _ _ _ _ _ _ encK_len Try.underlying40 sz23 (hR.mem HM) rfl rfl (by omega) (by omega)) ?_); intro v35 hv35
        simp only [Act.put, List.getElem_toArray, List.getElem_cons_succ, List.getElem_cons_zero, List.setIfInBounds_toArray, List.set_cons_succ, List.set_cons_zero]
        refine wm_e0 (i := 6) rfl ?_
        go_wp2_with (first
          | (go_at_call 131; go_must (((with_reducible refine (ih (l.length - splitN l.length) (by omega) _ (i - splitN l.length) _ _ (by rw [List.length_drop]; omega) (by omega) (by omega) (by omega) (hv28 _ (hR.mem HM))).mono ?_)); rintro e W ⟨u32, rfl, HM'⟩; replace HM := HM.join HM'; clear HM'; simp only [List.cons_append, List.nil_append] at HM)))
        refine ⟨HM.held (by simp), ?_⟩
        clear HS1 HS2
        have HS1 : Held w W [] := HM.held (by simp)
        have HS2 : Held w W [] := HM.held (by simp)
        refine wm_e0 (i := 10) rfl ?_
        go_wp2_with (first
          | (go_at_call 62; go_must (((with_reducible refine (rrootOf_c (splitN l.length) _ _ _ (by rw [List.length_take]; omega) (by omega) (hv35 _ (hR.mem HM))).mono ?_)); rintro e W ⟨rfl, HM'⟩; replace HM := HM.keep HM'.below; clear HM')))
        refine ⟨HM.held (by simp), ?_⟩
        clear HS1 HS2
        have HS1 : Held w W [] := HM.held (by simp)
        have HS2 : Held w W [] := HM.held (by simp)
        refine wm_e0 (i := 11) rfl ?_
        go_wp2_with (first
          | ((with_reducible refine s_ 37 ?_); go_must ((refine wl_slice1K (dst := some 37) _ _ _ _ _ Try.underlying40 Try.sizeOf23 Try.zeroValue23 kc_zero rfl HM ?_; clear HM; intro b37 W HM))))
        refine ⟨HM.held (by simp), ?_⟩
        clear HS1 HS2
        have HS1 : Held w W [] := HM.held (by simp)
        have HS2 : Held w W [] := HM.held (by simp)
        refine wm_e0 (i := 12) rfl ?_
        go_wp2_with (first
          | ((with_reducible refine s_ 38 ?_); go_must (refine wl_append (dst := some 38) (enc := encK) _ _ _ _ _ _ _ _ _ _ _ ([rootL (l.take (splitN l.length))]) Try.underlying40 inf23 rfl (by decide) encK_len encK_one HM (.there .here) (RdL.of_blk (HM.blk m0) _ 1 rfl (by simp [kc_toList]) (by decide)) rfl rfl (by decide) (by simp; omega) ?_; clear HM; intro v38 W HM; try dsimp only at HM)))
        refine ⟨HM.held (by simp), ?_⟩
        clear HS1 HS2
        have HS1 : Held w W [] := HM.held (by simp)
        have HS2 : Held w W [] := HM.held (by simp)
        refine wm_q2 (i := 13) (v := ?v6_8) (some 4) rfl rfl rfl HS2 (fun W HS => ?y6_8) ?_
        case y6_8 => (go_simp; try with_reducible rfl)
        simp only [Act.put, List.getElem_toArray, List.getElem_cons_succ, List.getElem_cons_zero, List.setIfInBounds_toArray, List.set_cons_succ, List.set_cons_zero]
        refine wm_nilN ?_
        clear HS1 HS2
        go_wp2_with (fail)
        refine ret1 rfl (res_tmp rfl) rfl ?_
        rw [hpe, List.length_append, List.flatMap_append]
        exact ⟨_, rfl, HM.only m1⟩
end Go.Proofs.Ythdekionepfmdaa
