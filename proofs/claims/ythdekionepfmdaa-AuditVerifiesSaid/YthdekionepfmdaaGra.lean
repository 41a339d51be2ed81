/- Growths: what they are, and the reference's part. -/
import Derived.Test.YthdekionepfmdaaPrb
set_option linter.unusedVariables false
set_option linter.unusedSimpArgs false
set_option maxRecDepth 8000
namespace Go.Proofs.Ythdekionepfmdaa
open Go.RowKit

/-- The path of a growth, from the bottom to the top. -/
def partL (l : List Key) (m : Nat) (wh : Bool) : List Key :=
  if h : l.length ≤ m ∨ l.length ≤ 1 then (if wh then [] else [rootL l])
  else if m ≤ splitN l.length then partL (l.take (splitN l.length)) m wh ++ [rootL (l.drop (splitN l.length))]
  else partL (l.drop (splitN l.length)) (m - splitN l.length) false ++ [rootL (l.take (splitN l.length))]
termination_by l.length
decreasing_by
  · have := splitN_lt l.length (by omega); simp; omega
  · have := splitN_lt l.length (by omega); simp; omega
theorem partL_whole (l : List Key) (m : Nat) (h : l.length ≤ m) : partL l m true = [] := by rw [partL, dif_pos (.inl h), if_pos rfl]
theorem partL_not (l : List Key) (m : Nat) (h : l.length ≤ m) : partL l m false = [rootL l] := by rw [partL, dif_pos (.inl h), if_neg (by decide)]
theorem partL_lo (l : List Key) (m : Nat) (wh : Bool) (h1 : 1 ≤ m) (h : m < l.length) (hi : m ≤ splitN l.length) : partL l m wh = partL (l.take (splitN l.length)) m wh ++ [rootL (l.drop (splitN l.length))] := by
  rw [partL, dif_neg (by omega), if_pos hi]
theorem partL_hi (l : List Key) (m : Nat) (wh : Bool) (h1 : 1 ≤ m) (h : m < l.length) (hi : ¬ m ≤ splitN l.length) : partL l m wh = partL (l.drop (splitN l.length)) (m - splitN l.length) false ++ [rootL (l.take (splitN l.length))] := by
  rw [partL, dif_neg (by omega), if_neg hi]
theorem partL_len : ∀ (n : Nat) (l : List Key) (m : Nat) (wh : Bool), l.length = n → (partL l m wh).length ≤ n + 1 := by
  intro n
  induction n using Nat.strongRecOn with
  | ind n ih =>
    intro l m wh hl
    by_cases h : l.length ≤ m ∨ l.length ≤ 1
    · rw [partL, dif_pos h]; cases wh <;> simp
    · have hs := splitN_lt l.length (by omega)
      rw [partL, dif_neg h]
      by_cases hi : m ≤ splitN l.length
      · rw [if_pos hi]
        have := ih (splitN l.length) (by omega) (l.take (splitN l.length)) m wh (by rw [List.length_take]; omega)
        simp; omega
      · rw [if_neg hi]
        have := ih (l.length - splitN l.length) (by omega) (l.drop (splitN l.length)) (m - splitN l.length) false (by rw [List.length_drop])
        simp; omega

set_option maxHeartbeats 1600000 in
theorem rpart_c : ∀ (n : Nat) (l : List Key) (m : Nat) (wh : Bool) (v : Value) (w : World), l.length = n → n ≤ 256 → 1 ≤ m → m ≤ n → RdL encK 16 w v l →
    Calls Try.prog 74 #[v, .int .i64 (m : Int), .bool wh] w fun e w' => ∃ u, e = .returned u ∧ Mem w w' [.row u 23 16 (partL l m wh).length ((partL l m wh).flatMap encK)] := by
  intro n
  induction n using Nat.strongRecOn with
  | ind n ih =>
    intro l m wh v w hln hn h1 hm hR
    subst hln
    have HM := Mem.start w
    by_cases hone : m = l.length
    · have hb : (m : Int) = (l.length : Int) := by omega
      clear ih
      cases wh with
      | true =>
        have hp := partL_whole l m (by omega)
        rw [hp]
        clear hp
        go_enter Try.func74, Try.ntmps74
        go_wp2_with (first
          | ((with_reducible refine s_ 10 ?_); go_must ((refine wl_len (dst := some 10) _ _ _ _ 23 Try.underlying40 rfl (hR.mem HM) ?_))))
        refine ret1 rfl (res_tmp rfl) rfl ?_
        exact ⟨_, rfl, HM.nilrow _ _⟩
      | false =>
        have hp := partL_not l m (by omega)
        rw [hp]
        clear hp
        go_enter Try.func74, Try.ntmps74
        go_wp2_with (first
          | ((with_reducible refine s_ 10 ?_); go_must ((refine wl_len (dst := some 10) _ _ _ _ 23 Try.underlying40 rfl (hR.mem HM) ?_)))
          | ((with_reducible refine s_ 15 ?_); go_must ((refine wl_slice1K (dst := some 15) _ _ _ _ _ Try.underlying40 Try.sizeOf23 Try.zeroValue23 kc_zero rfl HM ?_; clear HM; intro b15 W HM)))
          | (go_at_call 62; go_must (((with_reducible refine (rrootOf_c l.length _ _ _ rfl (by omega) (hR.mem HM)).mono ?_)); rintro e W ⟨rfl, HM'⟩; replace HM := HM.keep HM'.below; clear HM')))
        have HM2 := HM.toRow 16 1 .here (kc_size _) (by simp [maxLen])
        clear HM
        rename _ => HM
        refine ret1 rfl (res_tmp rfl) rfl ?_
        exact ⟨_, rfl, by simpa [kc_toList] using HM⟩
    · have hb : ¬ (m : Int) = (l.length : Int) := by omega
      have hs := splitN_lt l.length (by omega)
      have e : (((splitN l.length : Nat) : Int)).toNat = splitN l.length := Int.toNat_natCast _
      have hi1 : (0 : Int) ≤ ((splitN l.length : Nat) : Int) := by omega
      have hi2 : ((splitN l.length : Nat) : Int) ≤ (l.length : Int) := by omega
      by_cases hlo : m ≤ splitN l.length
      · have hb2 : (m : Int) ≤ ((splitN l.length : Nat) : Int) := by omega
        have hpl := partL_len (splitN l.length) (l.take (splitN l.length)) m wh (by rw [List.length_take]; omega)
        have hpe := partL_lo l m wh h1 (by omega) hlo
        go_enter Try.func74, Try.ntmps74
        go_wp2_with (first
          | ((with_reducible refine s_ 10 ?_); go_must ((refine wl_len (dst := some 10) _ _ _ _ 23 Try.underlying40 rfl (hR.mem HM) ?_)))
          | ((with_reducible refine s_ 17 ?_); go_must ((refine wl_len (dst := some 17) _ _ _ _ 23 Try.underlying40 rfl (hR.mem HM) ?_)))
          | (go_at_call 127; go_must (((with_reducible refine (rsplit_c _ (by omega) (by omega) _).mono ?_)); rintro e W ⟨rfl, HM'⟩; replace HM := HM.keep HM'.below; clear HM')))
        replace HM := HM.drew
        refine wp_region_mixN (fun W => Held w W []) (fun W => Held w W []) (.cons (2, 0) (.cons (2, 1) (.cons (2, 2) (.cons (2, 3) (.cons (2, 4) (.cons (2, 6) (.cons (2, 7) (.cons (2, 8) (.cons (0, 5) (.cons (0, 9) (.cons (0, 10) (.cons (0, 11) (.cons (2, 12) .nil))))))))))))) [] (by kernel_rfl) (by kernel_rfl) (by kernel_rfl) (fun W h => Held.weak h (by simp)) (HM.held (by simp)) ?_
        revert HM; generalize World.drew _ = W; intro HM
        have HS1 : Held w W [] := HM.held (by simp)
        have HS2 : Held w W [] := HM.held (by simp)
        refine wm_q2 (i := 0) (v := ?v7_1) (some 22) rfl rfl rfl HS2 (fun W HS => ?y7_1) ?_
        case y7_1 => (go_simp; try with_reducible rfl)
        simp only [Act.put, List.getElem_toArray, List.getElem_cons_succ, List.getElem_cons_zero, List.setIfInBounds_toArray, List.set_cons_succ, List.set_cons_zero]
        refine wm_q2 (i := 1) (v := ?v7_2) (some 23) rfl rfl rfl HS2 (fun W HS => ?y7_2) ?_
        case y7_2 => (go_simp; try with_reducible rfl)
        simp only [Act.put, List.getElem_toArray, List.getElem_cons_succ, List.getElem_cons_zero, List.setIfInBounds_toArray, List.set_cons_succ, List.set_cons_zero]
        (refine wm_q2x (i := 2) (some 24) rfl rfl rfl HS2 (ry_slice_hi _ 23 _ _ _ _ _ _ encK_len Try.underlying40 sz23 (hR.mem HM) rfl rfl (by omega) (by omega)) ?_); intro v24 hv24
        simp only [Act.put, List.getElem_toArray, List.getElem_cons_succ, List.getElem_cons_zero, List.setIfInBounds_toArray, List.set_cons_succ, List.set_cons_zero]
        refine wm_q2 (i := 3) (v := ?v7_3) (some 25) rfl rfl rfl HS2 (fun W HS => ?y7_3) ?_
        case y7_3 => (go_simp; try with_reducible rfl)
        simp only [Act.put, List.getElem_toArray, List.getElem_cons_succ, List.getElem_cons_zero, List.setIfInBounds_toArray, List.set_cons_succ, List.set_cons_zero]
        refine wm_q2 (i := 4) (v := ?v7_4) (some 26) rfl rfl rfl HS2 (fun W HS => ?y7_4) ?_
        case y7_4 => (go_simp; try with_reducible rfl)
        simp only [Act.put, List.getElem_toArray, List.getElem_cons_succ, List.getElem_cons_zero, List.setIfInBounds_toArray, List.set_cons_succ, List.set_cons_zero]
        refine wm_q2 (i := 6) (v := ?v7_5) (some 28) rfl rfl rfl HS2 (fun W HS => ?y7_5) ?_
        case y7_5 => (go_simp; try with_reducible rfl)
        simp only [Act.put, List.getElem_toArray, List.getElem_cons_succ, List.getElem_cons_zero, List.setIfInBounds_toArray, List.set_cons_succ, List.set_cons_zero]
        refine wm_q2 (i := 7) (v := ?v7_6) (some 29) rfl rfl rfl HS2 (fun W HS => ?y7_6) ?_
        case y7_6 => (go_simp; try with_reducible rfl)
        simp only [Act.put, List.getElem_toArray, List.getElem_cons_succ, List.getElem_cons_zero, List.setIfInBounds_toArray, List.set_cons_succ, List.set_cons_zero]
        (refine wm_q2x (i := 8) (some 30) rfl rfl rfl HS2 (ry_slice_lo _ 23 _ _ _ _ _ _ encK_len Try.underlying40 sz23 (hR.mem HM) rfl rfl (by omega) (by omega)) ?_); intro v30 hv30
        simp only [Act.put, List.getElem_toArray, List.getElem_cons_succ, List.getElem_cons_zero, List.setIfInBounds_toArray, List.set_cons_succ, List.set_cons_zero]
        refine wm_e0 (i := 5) rfl ?_
        go_wp2_with (first
          | (go_at_call 74; go_must (((with_reducible refine (ih (splitN l.length) (by omega) _ m wh _ _ (by rw [List.length_take]; omega) (by omega) (by omega) (by omega) (hv24 _ (hR.mem HM))).mono ?_)); rintro e W ⟨u27, rfl, HM'⟩; replace HM := HM.join HM'; clear HM'; simp only [List.cons_append, List.nil_append] at HM)))
        refine ⟨HM.held (by simp), ?_⟩
        clear HS1 HS2
        have HS1 : Held w W [] := HM.held (by simp)
        have HS2 : Held w W [] := HM.held (by simp)
        refine wm_e0 (i := 9) rfl ?_
        go_wp2_with (first
          | (go_at_call 62; go_must (((with_reducible refine (rrootOf_c (l.length - splitN l.length) _ _ _ (by rw [List.length_drop]; omega) (by omega) (hv30 _ (hR.mem HM))).mono ?_)); rintro e W ⟨rfl, HM'⟩; replace HM := HM.keep HM'.below; clear HM')))
        refine ⟨HM.held (by simp), ?_⟩
        clear HS1 HS2
        have HS1 : Held w W [] := HM.held (by simp)
        have HS2 : Held w W [] := HM.held (by simp)
        refine wm_e0 (i := 10) rfl ?_
        go_wp2_with (first
          | ((with_reducible refine s_ 32 ?_); go_must ((refine wl_slice1K (dst := some 32) _ _ _ _ _ Try.underlying40 Try.sizeOf23 Try.zeroValue23 kc_zero rfl HM ?_; clear HM; intro b32 W HM))))
        refine ⟨HM.held (by simp), ?_⟩
        clear HS1 HS2
        have HS1 : Held w W [] := HM.held (by simp)
        have HS2 : Held w W [] := HM.held (by simp)
        refine wm_e0 (i := 11) rfl ?_
        go_wp2_with (first
          | ((with_reducible refine s_ 33 ?_); go_must (refine wl_append (dst := some 33) (enc := encK) _ _ _ _ _ _ _ _ _ _ _ ([rootL (l.drop (splitN l.length))]) Try.underlying40 inf23 rfl (by decide) encK_len encK_one HM (.there .here) (RdL.of_blk (HM.blk m0) _ 1 rfl (by simp [kc_toList]) (by decide)) rfl rfl (by decide) (by simp; omega) ?_; clear HM; intro v33 W HM; try dsimp only at HM)))
        refine ⟨HM.held (by simp), ?_⟩
        clear HS1 HS2
        have HS1 : Held w W [] := HM.held (by simp)
        have HS2 : Held w W [] := HM.held (by simp)
        refine wm_q2 (i := 12) (v := ?v7_7) (some 6) rfl rfl rfl HS2 (fun W HS => ?y7_7) ?_
        case y7_7 => (go_simp; try with_reducible rfl)
        simp only [Act.put, List.getElem_toArray, List.getElem_cons_succ, List.getElem_cons_zero, List.setIfInBounds_toArray, List.set_cons_succ, List.set_cons_zero]
        refine wm_nilN ?_
        clear HS1 HS2
        go_wp2_with (fail)
        refine ret1 rfl (res_tmp rfl) rfl ?_
        rw [hpe, List.length_append, List.flatMap_append]
        exact ⟨_, rfl, HM.only m1⟩
      · have hb2 : ¬ (m : Int) ≤ ((splitN l.length : Nat) : Int) := by omega
        have hpl := partL_len (l.length - splitN l.length) (l.drop (splitN l.length)) (m - splitN l.length) false (by rw [List.length_drop])
        have hpe := partL_hi l m wh h1 (by omega) hlo
        have hw : IntKind.i64.wrap ((m : Int) - ((splitN l.length : Nat) : Int)) = ((m - splitN l.length : Nat) : Int) := by rw [IntKind.wrap_i64]; omega
        go_enter Try.func74, Try.ntmps74
        go_wp2_with (first
          | ((with_reducible refine s_ 10 ?_); go_must ((refine wl_len (dst := some 10) _ _ _ _ 23 Try.underlying40 rfl (hR.mem HM) ?_)))
          | ((with_reducible refine s_ 17 ?_); go_must ((refine wl_len (dst := some 17) _ _ _ _ 23 Try.underlying40 rfl (hR.mem HM) ?_)))
          | (go_at_call 127; go_must (((with_reducible refine (rsplit_c _ (by omega) (by omega) _).mono ?_)); rintro e W ⟨rfl, HM'⟩; replace HM := HM.keep HM'.below; clear HM')))
        replace HM := HM.drew
        refine wp_region_mixN (fun W => Held w W []) (fun W => Held w W []) (.cons (2, 0) (.cons (2, 1) (.cons (2, 2) (.cons (2, 3) (.cons (2, 4) (.cons (2, 5) (.cons (2, 7) (.cons (2, 8) (.cons (2, 9) (.cons (0, 6) (.cons (0, 10) (.cons (0, 11) (.cons (0, 12) (.cons (2, 13) .nil)))))))))))))) [] (by kernel_rfl) (by kernel_rfl) (by kernel_rfl) (fun W h => Held.weak h (by simp)) (HM.held (by simp)) ?_
        revert HM; generalize World.drew _ = W; intro HM
        have HS1 : Held w W [] := HM.held (by simp)
        have HS2 : Held w W [] := HM.held (by simp)
        refine wm_q2 (i := 0) (v := ?v8_1) (some 34) rfl rfl rfl HS2 (fun W HS => ?y8_1) ?_
        case y8_1 => (go_simp; try with_reducible rfl)
        simp only [Act.put, List.getElem_toArray, List.getElem_cons_succ, List.getElem_cons_zero, List.setIfInBounds_toArray, List.set_cons_succ, List.set_cons_zero]
        refine wm_q2 (i := 1) (v := ?v8_2) (some 35) rfl rfl rfl HS2 (fun W HS => ?y8_2) ?_
        case y8_2 => (go_simp; try with_reducible rfl)
        simp only [Act.put, List.getElem_toArray, List.getElem_cons_succ, List.getElem_cons_zero, List.setIfInBounds_toArray, List.set_cons_succ, List.set_cons_zero]
        (refine wm_q2x (i := 2) (some 36) rfl rfl rfl HS2 (ry_slice_lo _ 23 _ _ _ _ _ _ encK_len Try.underlying40 sz23 (hR.mem HM) rfl rfl (by omega) (by omega)) ?_); intro v36 hv36
        simp only [Act.put, List.getElem_toArray, List.getElem_cons_succ, List.getElem_cons_zero, List.setIfInBounds_toArray, List.set_cons_succ, List.set_cons_zero]
        refine wm_q2 (i := 3) (v := ?v8_3) (some 37) rfl rfl rfl HS2 (fun W HS => ?y8_3) ?_
        case y8_3 => (go_simp; try with_reducible rfl)
        simp only [Act.put, List.getElem_toArray, List.getElem_cons_succ, List.getElem_cons_zero, List.setIfInBounds_toArray, List.set_cons_succ, List.set_cons_zero]
        refine wm_q2 (i := 4) (v := ?v8_4) (some 38) rfl rfl rfl HS2 (fun W HS => ?y8_4) ?_
        case y8_4 => (go_simp; try with_reducible rfl)
        simp only [Act.put, List.getElem_toArray, List.getElem_cons_succ, List.getElem_cons_zero, List.setIfInBounds_toArray, List.set_cons_succ, List.set_cons_zero]
        refine wm_q2 (i := 5) (v := ?v8_5) (some 39) rfl rfl rfl HS2 (fun W HS => ?y8_5) ?_
        case y8_5 => (go_simp; try with_reducible rfl)
        simp only [Act.put, List.getElem_toArray, List.getElem_cons_succ, List.getElem_cons_zero, List.setIfInBounds_toArray, List.set_cons_succ, List.set_cons_zero]
        refine wm_q2 (i := 7) (v := ?v8_6) (some 41) rfl rfl rfl HS2 (fun W HS => ?y8_6) ?_
        case y8_6 => (go_simp; try with_reducible rfl)
        simp only [Act.put, List.getElem_toArray, List.getElem_cons_succ, List.getElem_cons_zero, List.setIfInBounds_toArray, List.set_cons_succ, List.set_cons_zero]
        refine wm_q2 (i := 8) (v := ?v8_7) (some 42) rfl rfl rfl HS2 (fun W HS => ?y8_7) ?_
        case y8_7 => (go_simp; try with_reducible rfl)
        simp only [Act.put, List.getElem_toArray, List.getElem_cons_succ, List.getElem_cons_zero, List.setIfInBounds_toArray, List.set_cons_succ, List.set_cons_zero]
        (refine wm_q2x (i := 9) (some 43) rfl rfl rfl HS2 (ry_slice_hi _ 23 _ _ _ _ _ _ encK_len Try.underlying40 sz23 (hR.mem HM) rfl rfl (by omega) (by omega)) ?_); intro v43 hv43
        simp only [Act.put, List.getElem_toArray, List.getElem_cons_succ, List.getElem_cons_zero, List.setIfInBounds_toArray, List.set_cons_succ, List.set_cons_zero]
        refine wm_e0 (i := 6) rfl ?_
        go_wp2_with (first
          | (go_at_call 74; go_must (((with_reducible refine (ih (l.length - splitN l.length) (by omega) _ (m - splitN l.length) false _ _ (by rw [List.length_drop]; omega) (by omega) (by omega) (by omega) (hv36 _ (hR.mem HM))).mono ?_)); rintro e W ⟨u40, rfl, HM'⟩; replace HM := HM.join HM'; clear HM'; simp only [List.cons_append, List.nil_append] at HM)))
        refine ⟨HM.held (by simp), ?_⟩
        clear HS1 HS2
        have HS1 : Held w W [] := HM.held (by simp)
        have HS2 : Held w W [] := HM.held (by simp)
        refine wm_e0 (i := 10) rfl ?_
        go_wp2_with (first
          | (go_at_call 62; go_must (((with_reducible refine (rrootOf_c (splitN l.length) _ _ _ (by rw [List.length_take]; omega) (by omega) (hv43 _ (hR.mem HM))).mono ?_)); rintro e W ⟨rfl, HM'⟩; replace HM := HM.keep HM'.below; clear HM')))
        refine ⟨HM.held (by simp), ?_⟩
        clear HS1 HS2
        have HS1 : Held w W [] := HM.held (by simp)
        have HS2 : Held w W [] := HM.held (by simp)
        refine wm_e0 (i := 11) rfl ?_
        go_wp2_with (first
          | ((with_reducible refine s_ 45 ?_); go_must ((refine wl_slice1K (dst := some 45) _ _ _ _ _ Try.underlying40 Try.sizeOf23 Try.zeroValue23 kc_zero rfl HM ?_; clear HM; intro b45 W HM))))
        refine ⟨HM.held (by simp), ?_⟩
        clear HS1 HS2
        have HS1 : Held w W [] := HM.held (by simp)
        have HS2 : Held w W [] := HM.held (by simp)
        refine wm_e0 (i := 12) rfl ?_
        go_wp2_with (first
          | ((with_reducible refine s_ 46 ?_); go_must (refine wl_append (dst := some 46) (enc := encK) _ _ _ _ _ _ _ _ _ _ _ ([rootL (l.take (splitN l.length))]) Try.underlying40 inf23 rfl (by decide) encK_len encK_one HM (.there .here) (RdL.of_blk (HM.blk m0) _ 1 rfl (by simp [kc_toList]) (by decide)) rfl rfl (by decide) (by simp; omega) ?_; clear HM; intro v46 W HM; try dsimp only at HM)))
        refine ⟨HM.held (by simp), ?_⟩
        clear HS1 HS2
        have HS1 : Held w W [] := HM.held (by simp)
        have HS2 : Held w W [] := HM.held (by simp)
        refine wm_q2 (i := 13) (v := ?v8_8) (some 6) rfl rfl rfl HS2 (fun W HS => ?y8_8) ?_
        case y8_8 => (go_simp; try with_reducible rfl)
        simp only [Act.put, List.getElem_toArray, List.getElem_cons_succ, List.getElem_cons_zero, List.setIfInBounds_toArray, List.set_cons_succ, List.set_cons_zero]
        refine wm_nilN ?_
        clear HS1 HS2
        go_wp2_with (fail)
        refine ret1 rfl (res_tmp rfl) rfl ?_
        rw [hpe, List.length_append, List.flatMap_append]
        exact ⟨_, rfl, HM.only m1⟩
end Go.Proofs.Ythdekionepfmdaa
