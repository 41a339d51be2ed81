/- Roots: of the program and of the reference. -/
import Derived.Test.YthdekionepfmdaaRta
set_option linter.unusedVariables false
set_option linter.unusedSimpArgs false
set_option maxRecDepth 8000
namespace Go.Proofs.Ythdekionepfmdaa
open Go.RowKit

theorem rd_nil {α : Type} {enc : α → List Value} {size : Nat} {w : World} : RdL enc size w (.slice none 0 0) ([] : List α) := ⟨none, 0, rfl, by simp, by simp [maxLen], fun h => absurd rfl h⟩
theorem rootL_nil (l : List Key) (h : l.length = 0) : rootL l = digestL [] := by rw [rootL, dif_pos h]

set_option maxHeartbeats 800000 in
theorem root_c (v : Value) (l : List Key) (w : World) (hR : RdL encK 16 w v l) (hn : l.length ≤ 256) :
    Calls Try.prog 61 #[v] w fun e w' => e = .returned (.agg (kc (rootL l))) ∧ Mem w w' [] := by
  have HM := Mem.start w
  by_cases h0 : l.length = 0
  · have hb : (l.length : Int) = 0 := by omega
    go_enter Try.func61, Try.ntmps61
    go_wp2_with (first
      | ((with_reducible refine s_ 2 ?_); go_must (refine wl_alloc (dst := some 2) (cs := kc zeroKey) 23 _ Try.zeroValue23 kc_zero HM ?_; clear HM; intro b2 W HM))
      | ((with_reducible refine s_ 4 ?_); go_must ((refine wl_len (dst := some 4) _ _ _ _ 23 Try.underlying40 rfl (hR.mem HM) ?_)))
      | ((with_reducible refine st_ 23 ?_); go_must ((refine wl_store_blk _ _ _ _ _ _ _ rfl rfl HM .here (by rw [kc_size]; exact sz23) (by simp only [kc_size]) (kc_one _) ?_); clear HM; intro W HM))
      | (go_at_call 122; go_must (((with_reducible refine (digest_c _ [] _ rd_nil (by simp)).mono ?_)); rintro e W ⟨rfl, HM'⟩; replace HM := HM.keep HM'.below; clear HM')))
    refine ret1 rfl (by (exact res_row HM rfl m0 Try.underlying23 rfl (by rw [kc_size]; exact sz23))) rfl ?_
    exact ⟨by rw [rootL_nil l h0], HM.base⟩
  · have hb : ¬ (l.length : Int) = 0 := by omega
    go_enter Try.func61, Try.ntmps61
    go_wp2_with (first
      | ((with_reducible refine s_ 2 ?_); go_must (refine wl_alloc (dst := some 2) (cs := kc zeroKey) 23 _ Try.zeroValue23 kc_zero HM ?_; clear HM; intro b2 W HM))
      | ((with_reducible refine s_ 4 ?_); go_must ((refine wl_len (dst := some 4) _ _ _ _ 23 Try.underlying40 rfl (hR.mem HM) ?_)))
      | ((with_reducible refine st_ 23 ?_); go_must ((refine wl_store_blk _ _ _ _ _ _ _ rfl rfl HM .here (by rw [kc_size]; exact sz23) (by simp only [kc_size]) (kc_one _) ?_); clear HM; intro W HM))
      | (go_at_call 63; go_must (((with_reducible refine (foldK_c l.length l _ _ rfl (by omega) hn (hR.mem HM)).mono ?_)); rintro e W ⟨rfl, HM'⟩; replace HM := HM.keep HM'.below; clear HM')))
    refine ret1 rfl (by (exact res_row HM rfl m0 Try.underlying23 rfl (by rw [kc_size]; exact sz23))) rfl ?_
    exact ⟨rfl, HM.base⟩

set_option maxHeartbeats 1600000 in
theorem rrootOf_c : ∀ (n : Nat) (l : List Key) (v : Value) (w : World), l.length = n → n ≤ 256 → RdL encK 16 w v l →
    Calls Try.prog 62 #[v] w fun e w' => e = .returned (.agg (kc (rootL l))) ∧ Mem w w' [] := by
  intro n
  induction n using Nat.strongRecOn with
  | ind n ih =>
    intro l v w hln hn hR
    subst hln
    have HM := Mem.start w
    by_cases h0 : l.length = 0
    · have hb : (l.length : Int) = 0 := by omega
      clear ih
      go_enter Try.func62, Try.ntmps62
      go_wp2_with (first
        | ((with_reducible refine s_ 2 ?_); go_must (refine wl_alloc (dst := some 2) (cs := kc zeroKey) 23 _ Try.zeroValue23 kc_zero HM ?_; clear HM; intro b2 W HM))
        | ((with_reducible refine s_ 5 ?_); go_must ((refine wl_len (dst := some 5) _ _ _ _ 23 Try.underlying40 rfl (hR.mem HM) ?_)))
        | ((with_reducible refine st_ 23 ?_); go_must ((refine wl_store_blk _ _ _ _ _ _ _ rfl rfl HM .here (by rw [kc_size]; exact sz23) (by simp only [kc_size]) (kc_one _) ?_); clear HM; intro W HM))
        | (go_at_call 125; go_must (((with_reducible refine (rdigest_c _ [] _ rd_nil (by simp)).mono ?_)); rintro e W ⟨rfl, HM'⟩; replace HM := HM.keep HM'.below; clear HM')))
      refine ret1 rfl (by (exact res_row HM rfl m0 Try.underlying23 rfl (by rw [kc_size]; exact sz23))) rfl ?_
      exact ⟨by rw [rootL_nil l h0], HM.base⟩
    · have hb0 : ¬ (l.length : Int) = 0 := by omega
      by_cases hone : l.length = 1
      · have hb : (l.length : Int) = 1 := by omega
        have hx : l[(0 : Int).toNat]? = some (l[0]'(by omega)) := List.getElem?_eq_getElem (by omega)
        clear ih
        go_enter Try.func62, Try.ntmps62
        go_wp2_with (first
          | ((with_reducible refine s_ 2 ?_); go_must (refine wl_alloc (dst := some 2) (cs := kc zeroKey) 23 _ Try.zeroValue23 kc_zero HM ?_; clear HM; intro b2 W HM))
          | ((with_reducible refine s_ 5 ?_); go_must ((refine wl_len (dst := some 5) _ _ _ _ 23 Try.underlying40 rfl (hR.mem HM) ?_)))
          | ((with_reducible refine s_ 9 ?_); go_must ((refine wl_len (dst := some 9) _ _ _ _ 23 Try.underlying40 rfl (hR.mem HM) ?_)))
          | ((with_reducible refine s_ 12 ?_); go_must ((refine wl_index (dst := some 12) _ 23 _ _ _ _ _ _ _ encK_len Try.underlying40 sz23 rfl rfl (hR.mem HM) (by omega) (by first | assumption | simp [*]) ?_); intro p12 hp12))
          | ((with_reducible refine s_ 13 ?_); go_must (refine wl_load_key (dst := some 13) _ _ _ _ rfl hp12 Try.underlying23 sz23 ?_))
          | ((with_reducible refine st_ 23 ?_); go_must ((refine wl_store_blk _ _ _ _ _ _ _ rfl rfl HM (.there .here) (by rw [kc_size]; exact sz23) (by simp only [kc_size]) (kc_one _) ?_); clear HM; intro W HM))
          | (go_at_call 126; go_must (((with_reducible refine (rleafText_c _ _).mono ?_)); rintro e W ⟨v14, rfl, HM'⟩; replace HM := HM.join HM'; clear HM'; simp only [List.cons_append, List.nil_append] at HM))
          | (go_at_call 125; go_must (((with_reducible refine (rdigest_c _ (textLeaf (l[0]'(by omega))) _ (rd_row HM m0 rfl) (by rw [textLeaf_len]; decide)).mono ?_)); rintro e W ⟨rfl, HM'⟩; replace HM := HM.keep HM'.below; clear HM')))
        refine ret1 rfl (by (exact res_row HM rfl m1 Try.underlying23 rfl (by rw [kc_size]; exact sz23))) rfl ?_
        exact ⟨by rw [rootL_one l hone]; rfl, HM.base⟩
      · have hb : ¬ (l.length : Int) = 1 := by omega
        have hs := splitN_lt l.length (by omega)
        have e : (((splitN l.length : Nat) : Int)).toNat = splitN l.length := Int.toNat_natCast _
        have hi1 : (0 : Int) ≤ ((splitN l.length : Nat) : Int) := by omega
        have hi2 : ((splitN l.length : Nat) : Int) ≤ (l.length : Int) := by omega
        go_enter Try.func62, Try.ntmps62
        go_wp2_with (first
          | ((with_reducible refine s_ 2 ?_); go_must (refine wl_alloc (dst := some 2) (cs := kc zeroKey) 23 _ Try.zeroValue23 kc_zero HM ?_; clear HM; intro b2 W HM))
          | ((with_reducible refine s_ 5 ?_); go_must ((refine wl_len (dst := some 5) _ _ _ _ 23 Try.underlying40 rfl (hR.mem HM) ?_)))
          | ((with_reducible refine s_ 9 ?_); go_must ((refine wl_len (dst := some 9) _ _ _ _ 23 Try.underlying40 rfl (hR.mem HM) ?_)))
          | ((with_reducible refine s_ 17 ?_); go_must ((refine wl_len (dst := some 17) _ _ _ _ 23 Try.underlying40 rfl (hR.mem HM) ?_)))
          | (go_at_call 127; go_must (((with_reducible refine (rsplit_c _ (by omega) (by omega) _).mono ?_)); rintro e W ⟨rfl, HM'⟩; replace HM := HM.keep HM'.below; clear HM')))
        replace HM := HM.drew
        refine wp_region_mixN (fun W => Held w W []) (fun W => Held w W []) (.cons (2, 0) (.cons (2, 1) (.cons (2, 2) (.cons (2, 4) (.cons (2, 5) (.cons (2, 6) (.cons (0, 3) (.cons (0, 7) (.cons (0, 8) (.cons (0, 9) (.cons (0, 10) .nil))))))))))) [] (by kernel_rfl) (by kernel_rfl) (by kernel_rfl) (fun W h => Held.weak h (by simp)) (HM.held (by simp)) ?_
        revert HM; generalize World.drew _ = W; intro HM
        have HS1 : Held w W [] := HM.held (by simp)
        have HS2 : Held w W [] := HM.held (by simp)
        refine wm_q2 (i := 0) (v := ?v6_1) (some 19) rfl rfl rfl HS2 (fun W HS => ?y6_1) ?_
        case y6_1 => (go_simp; try with_reducible rfl)
        simp only [Act.put, List.getElem_toArray, List.getElem_cons_succ, List.getElem_cons_zero, List.setIfInBounds_toArray, List.set_cons_succ, List.set_cons_zero]
        refine wm_q2 (i := 1) (v := ?v6_2) (some 20) rfl rfl rfl HS2 (fun W HS => ?y6_2) ?_
        case y6_2 => (go_simp; try with_reducible rfl)
        simp only [Act.put, List.getElem_toArray, List.getElem_cons_succ, List.getElem_cons_zero, List.setIfInBounds_toArray, List.set_cons_succ, List.set_cons_zero]
        (refine wm_q2x (i := 2) (some 21) rfl rfl rfl HS2 (ry_slice_hi _ 23 _ _ _ _ _ _ encK_len Try.underlying40 sz23 (hR.mem HM) rfl rfl (by omega) (by omega)) ?_); intro v21 hv21
        simp only [Act.put, List.getElem_toArray, List.getElem_cons_succ, List.getElem_cons_zero, List.setIfInBounds_toArray, List.set_cons_succ, List.set_cons_zero]
        refine wm_q2 (i := 4) (v := ?v6_3) (some 23) rfl rfl rfl HS2 (fun W HS => ?y6_3) ?_
        case y6_3 => (go_simp; try with_reducible rfl)
        simp only [Act.put, List.getElem_toArray, List.getElem_cons_succ, List.getElem_cons_zero, List.setIfInBounds_toArray, List.set_cons_succ, List.set_cons_zero]
        refine wm_q2 (i := 5) (v := ?v6_4) (some 24) rfl rfl rfl HS2 (fun W HS => ?y6_4) ?_
        case y6_4 => (go_simp; try with_reducible rfl)
        simp only [Act.put, List.getElem_toArray, List.getElem_cons_succ, List.getElem_cons_zero, List.setIfInBounds_toArray, List.set_cons_succ, List.set_cons_zero]
        (refine wm_q2x (i := 6) (some 25) rfl rfl rfl HS2 (ry_slice_lo _ 23 _ _ _ _ _ _ encK_len Try.underlying40 sz23 (hR.mem HM) rfl rfl (by omega) (by omega)) ?_); intro v25 hv25
        simp only [Act.put, List.getElem_toArray, List.getElem_cons_succ, List.getElem_cons_zero, List.setIfInBounds_toArray, List.set_cons_succ, List.set_cons_zero]
        refine wm_e0 (i := 3) rfl ?_
        go_wp2_with (first
          | (go_at_call 62; go_must (((with_reducible refine (ih (splitN l.length) (by omega) _ _ _ (by rw [List.length_take]; omega) (by omega) (hv21 _ (hR.mem HM))).mono ?_)); rintro e W ⟨rfl, HM'⟩; replace HM := HM.keep HM'.below; clear HM')))
        refine ⟨HM.held (by simp), ?_⟩
        clear HS1 HS2
        have HS1 : Held w W [] := HM.held (by simp)
        have HS2 : Held w W [] := HM.held (by simp)
        refine wm_e0 (i := 7) rfl ?_
        go_wp2_with (first
          | (go_at_call 62; go_must (((with_reducible refine (ih (l.length - splitN l.length) (by omega) _ _ _ (by rw [List.length_drop]; omega) (by omega) (hv25 _ (hR.mem HM))).mono ?_)); rintro e W ⟨rfl, HM'⟩; replace HM := HM.keep HM'.below; clear HM')))
        refine ⟨HM.held (by simp), ?_⟩
        clear HS1 HS2
        have HS1 : Held w W [] := HM.held (by simp)
        have HS2 : Held w W [] := HM.held (by simp)
        refine wm_e0 (i := 8) rfl ?_
        go_wp2_with (first
          | (go_at_call 128; go_must (((with_reducible refine (rnodeText_c _ _ _).mono ?_)); rintro e W ⟨v27, rfl, HM'⟩; replace HM := HM.join HM'; clear HM'; simp only [List.cons_append, List.nil_append] at HM)))
        refine ⟨HM.held (by simp), ?_⟩
        clear HS1 HS2
        have HS1 : Held w W [] := HM.held (by simp)
        have HS2 : Held w W [] := HM.held (by simp)
        refine wm_e0 (i := 9) rfl ?_
        go_wp2_with (first
          | (go_at_call 125; go_must (((with_reducible refine (rdigest_c _ (textNode (rootL (l.take (splitN l.length))) (rootL (l.drop (splitN l.length)))) _ (rd_row HM m0 rfl) (by rw [textNode_len]; decide)).mono ?_)); rintro e W ⟨rfl, HM'⟩; replace HM := HM.keep HM'.below; clear HM')))
        refine ⟨HM.held (by simp), ?_⟩
        clear HS1 HS2
        have HS1 : Held w W [] := HM.held (by simp)
        have HS2 : Held w W [] := HM.held (by simp)
        refine wm_e0 (i := 10) rfl ?_
        go_wp2_with (first
          | ((with_reducible refine st_ 23 ?_); go_must ((refine wl_store_blk _ _ _ _ _ _ _ rfl rfl HM (.there .here) (by rw [kc_size]; exact sz23) (by simp only [kc_size]) (kc_one _) ?_); clear HM; intro W HM)))
        refine ⟨HM.held (by simp), ?_⟩
        clear HS1 HS2
        have HS1 : Held w W [] := HM.held (by simp)
        have HS2 : Held w W [] := HM.held (by simp)
        refine wm_nilN ?_
        clear HS1 HS2
        go_wp2_with (fail)
        refine ret1 rfl (by (exact res_row HM rfl m1 Try.underlying23 rfl (by rw [kc_size]; exact sz23))) rfl ?_
        rw [rootL_two l (by omega)]
        exact ⟨rfl, HM.base⟩
end Go.Proofs.Ythdekionepfmdaa
