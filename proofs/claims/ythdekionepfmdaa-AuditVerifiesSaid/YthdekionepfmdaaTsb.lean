/- The texts of a list: the program's fold over two functions that keep what they digest. -/
import Derived.Test.YthdekionepfmdaaTsa
set_option linter.unusedVariables false
set_option linter.unusedSimpArgs false
set_option maxRecDepth 8000
namespace Go.Proofs.Ythdekionepfmdaa
open Go.RowKit

/-- The texts whose digests a root is made of. -/
def textsL (l : List Key) : List (List UInt8) :=
  if h0 : l.length = 0 then [[]]
  else if h1 : l.length = 1 then [textLeaf (l[0]'(by omega))]
  else textsL (l.take (splitN l.length)) ++ textsL (l.drop (splitN l.length)) ++ [textNode (rootL (l.take (splitN l.length))) (rootL (l.drop (splitN l.length)))]
termination_by l.length
decreasing_by
  · have := splitN_lt l.length (by omega); simp; omega
  · have := splitN_lt l.length (by omega); simp; omega
theorem textsL_nil (l : List Key) (h : l.length = 0) : textsL l = [[]] := by rw [textsL, dif_pos h]
theorem textsL_one (l : List Key) (h : l.length = 1) : textsL l = [textLeaf (l[0]'(by omega))] := by
  rw [textsL, dif_neg (by omega), dif_pos h]
theorem textsL_two (l : List Key) (h : 2 ≤ l.length) : textsL l = textsL (l.take (splitN l.length)) ++ textsL (l.drop (splitN l.length)) ++ [textNode (rootL (l.take (splitN l.length))) (rootL (l.drop (splitN l.length)))] := by
  rw [textsL, dif_neg (by omega), dif_neg (by omega)]
theorem textsL_len : ∀ (n : Nat) (l : List Key), l.length = n → (textsL l).length ≤ 2 * n + 1 ∧ (1 ≤ n → (textsL l).length + 1 ≤ 2 * n) := by
  intro n
  induction n using Nat.strongRecOn with
  | ind n ih =>
    intro l hl
    by_cases h0 : l.length = 0
    · rw [textsL_nil l h0]; simp; omega
    · by_cases h1 : l.length = 1
      · rw [textsL_one l h1]; simp; omega
      · have hs := splitN_lt l.length (by omega)
        rw [textsL_two l (by omega)]
        have h2 := (ih (splitN l.length) (by omega) (l.take (splitN l.length)) (by rw [List.length_take]; omega)).2 (by omega)
        have h3 := (ih (l.length - splitN l.length) (by omega) (l.drop (splitN l.length)) (by rw [List.length_drop])).2 (by omega)
        simp; omega

/-- These texts are those. -/
def TxIs (us : List (Value × List UInt8)) (ts : List (List UInt8)) : Prop := us.map (·.2) = ts
theorem TxIs.len {us : List (Value × List UInt8)} {ts : List (List UInt8)} (h : TxIs us ts) : us.length = ts.length := by rw [← show us.map (·.2) = ts from h, List.length_map]
theorem TxIs.app {us vs : List (Value × List UInt8)} {ts qs : List (List UInt8)} (h : TxIs us ts) (h' : TxIs vs qs) : TxIs (us ++ vs) (ts ++ qs) := by
  rw [TxIs, List.map_append, show us.map (·.2) = ts from h, show vs.map (·.2) = qs from h']
theorem TxIs.one (p : Value) (x : List UInt8) : TxIs [(p, x)] [x] := rfl
theorem Tx.inl {us : List (Value × List UInt8)} {R : List It} (S : List It) (h : Tx us R) : Tx us (R ++ S) := h.mono fun x hx => List.mem_append_left _ hx
theorem Tx.inr {us : List (Value × List UInt8)} {R : List It} (S : List It) (h : Tx us R) : Tx us (S ++ R) := h.mono fun x hx => List.mem_append_right _ hx

theorem txl_take {vs : List (Value × List UInt8)} {l : List Key} (h : TxIs vs (textsL (l.take (splitN l.length)))) (hs : 1 ≤ splitN l.length ∧ splitN l.length < l.length) : vs.length + 1 ≤ 2 * splitN l.length := by
  rw [h.len]; exact (textsL_len _ (l.take (splitN l.length)) (by rw [List.length_take]; omega)).2 (by omega)
theorem txl_drop {vs : List (Value × List UInt8)} {l : List Key} (h : TxIs vs (textsL (l.drop (splitN l.length)))) (hs : 1 ≤ splitN l.length ∧ splitN l.length < l.length) : vs.length + 1 ≤ 2 * (l.length - splitN l.length) := by
  rw [h.len]; exact (textsL_len _ (l.drop (splitN l.length)) (by rw [List.length_drop])).2 (by omega)

section
attribute [local irreducible] rowT
set_option maxHeartbeats 1600000 in
theorem foldT_c (w0 : World) (b : Nat) : ∀ (n : Nat) (l : List Key) (v : Value) (W : World) (u : Value) (us : List (Value × List UInt8)) (L : List It), l.length = n → 1 ≤ n → n ≤ 256 → us.length + 2 * n ≤ 1000000 → RdL encK 16 w0 v l →
    Mem w0 W (.blk b #[u] 119 :: .row u 24 1 us.length (valsT us) :: L) →
    Calls Try.prog 63 #[v, .func (.func 64) #[] #[.pointer (some ⟨b, 0, none⟩)], .func (.func 67) #[] #[.pointer (some ⟨b, 0, none⟩)]] W fun e W' =>
      ∃ u' vs R, e = .returned (.agg (kc (rootL l))) ∧ TxIs vs (textsL l) ∧ Tx vs R ∧ Mem w0 W' (.blk b #[u'] 119 :: .row u' 24 1 (us ++ vs).length (valsT (us ++ vs)) :: (R ++ L)) := by
  intro n
  induction n using Nat.strongRecOn with
  | ind n ih =>
    intro l v W u us L hln h1 hn hus hR HM
    subst hln
    by_cases hone : l.length = 1
    · have hb : (l.length : Int) = 1 := by omega
      clear ih
      have hx : l[(0 : Int).toNat]? = some (l[0]'(by omega)) := List.getElem?_eq_getElem (by omega)
      go_enter Try.func63, Try.ntmps63
      go_wp2_with (first
        | ((with_reducible refine s_ 6 ?_); go_must (refine wl_alloc (dst := some 6) (cs := kc zeroKey) 23 _ Try.zeroValue23 kc_zero HM ?_; clear HM; intro b6 W HM))
        | ((with_reducible refine s_ 9 ?_); go_must ((refine wl_len (dst := some 9) _ _ _ _ 23 Try.underlying40 rfl (hR.mem HM) ?_)))
        | ((with_reducible refine s_ 13 ?_); go_must ((refine wl_index (dst := some 13) _ 23 _ _ _ _ _ _ _ encK_len Try.underlying40 sz23 rfl rfl (hR.mem HM) (by omega) (by first | assumption | simp [*]) ?_); intro p13 hp13))
        | ((with_reducible refine s_ 14 ?_); go_must (refine wl_load_key (dst := some 14) _ _ _ _ rfl hp13 Try.underlying23 sz23 ?_))
        | ((with_reducible refine st_ 23 ?_); go_must ((refine wl_store_blk _ _ _ _ _ _ _ rfl rfl HM (.there (.there (.there .here))) (by rw [kc_size]; exact sz23) (by simp only [kc_size]) (kc_one _) ?_); clear HM; intro W HM))
        | (go_at_call 64; go_must (((with_reducible refine (texts1_c w0 _ b u us _ _ HM.rot1 (by omega)).mono ?_)); rintro e W ⟨u', p, rfl, HM'⟩; clear HM; rename _ => HM)))
      refine ret1 rfl (by (exact res_row HM rfl m3 Try.underlying23 rfl (by rw [kc_size]; exact sz23))) rfl ?_
      rw [rootL_one l hone, textsL_one l hone]
      exact ⟨u', [(p, textLeaf (l[0]'(by omega)))], [rowT (p, textLeaf (l[0]'(by omega)))], rfl, TxIs.one _ _, Tx.one m0, HM.drop4⟩
    · have hb : ¬ (l.length : Int) = 1 := by omega
      have hs := splitN_lt l.length (by omega)
      have e : (((splitN l.length : Nat) : Int)).toNat = splitN l.length := Int.toNat_natCast _
      have hi1 : (0 : Int) ≤ ((splitN l.length : Nat) : Int) := by omega
      have hi2 : ((splitN l.length : Nat) : Int) ≤ (l.length : Int) := by omega
      go_enter Try.func63, Try.ntmps63
      go_wp2_with (first
        | ((with_reducible refine s_ 6 ?_); go_must (refine wl_alloc (dst := some 6) (cs := kc zeroKey) 23 _ Try.zeroValue23 kc_zero HM ?_; clear HM; intro b6 W HM))
        | ((with_reducible refine s_ 9 ?_); go_must ((refine wl_len (dst := some 9) _ _ _ _ 23 Try.underlying40 rfl (hR.mem HM) ?_)))
        | ((with_reducible refine s_ 17 ?_); go_must ((refine wl_len (dst := some 17) _ _ _ _ 23 Try.underlying40 rfl (hR.mem HM) ?_)))
        | (go_at_call 72; go_must (((with_reducible refine (split_c _ (by omega) (by omega) _).mono ?_)); rintro e W ⟨rfl, HM'⟩; replace HM := HM.keep HM'.below; clear HM')))
      replace HM := HM.drew
      refine wp_region_mixN (fun W => Held w0 W []) (fun W => Held w0 W []) (.cons (2, 0) (.cons (2, 1) (.cons (2, 2) (.cons (2, 3) (.cons (2, 4) (.cons (2, 5) (.cons (2, 7) (.cons (2, 8) (.cons (2, 9) (.cons (2, 10) (.cons (2, 11) (.cons (0, 6) (.cons (0, 12) (.cons (0, 13) (.cons (0, 14) .nil))))))))))))))) [] (by kernel_rfl) (by kernel_rfl) (by kernel_rfl) (fun W h => Held.weak h (by simp)) (HM.held (by simp)) ?_
      revert HM; generalize World.drew _ = W; intro HM
      have HS1 : Held w0 W [] := HM.held (by simp)
      have HS2 : Held w0 W [] := HM.held (by simp)
      refine wm_q2 (i := 0) (v := ?v4_1) (some 19) rfl rfl rfl HS2 (fun W HS => ?y4_1) ?_
      case y4_1 => (go_simp; try with_reducible rfl)
      simp only [Act.put, List.getElem_toArray, List.getElem_cons_succ, List.getElem_cons_zero, List.setIfInBounds_toArray, List.set_cons_succ, List.set_cons_zero]
      refine wm_q2 (i := 1) (v := ?v4_2) (some 20) rfl rfl rfl HS2 (fun W HS => ?y4_2) ?_
      case y4_2 => (go_simp; try with_reducible rfl)
      simp only [Act.put, List.getElem_toArray, List.getElem_cons_succ, List.getElem_cons_zero, List.setIfInBounds_toArray, List.set_cons_succ, List.set_cons_zero]
      refine wm_q2 (i := 2) (v := ?v4_3) (some 21) rfl rfl rfl HS2 (fun W HS => ?y4_3) ?_
      case y4_3 => (go_simp; try with_reducible rfl)
      simp only [Act.put, List.getElem_toArray, List.getElem_cons_succ, List.getElem_cons_zero, List.setIfInBounds_toArray, List.set_cons_succ, List.set_cons_zero]
      (refine wm_q2x (i := 3) (some 22) rfl rfl rfl HS2 (ry_slice_hi _ 23 _ _ _ _ _ _ encK_len Try.underlying40 sz23 (hR.mem HM) rfl rfl (by omega) (by omega)) ?_); intro v22 hv22
      simp only [Act.put, List.getElem_toArray, List.getElem_cons_succ, List.getElem_cons_zero, List.setIfInBounds_toArray, List.set_cons_succ, List.set_cons_zero]
      refine wm_q2 (i := 4) (v := ?v4_4) (some 23) rfl rfl rfl HS2 (fun W HS => ?y4_4) ?_
      case y4_4 => (go_simp; try with_reducible rfl)
      simp only [Act.put, List.getElem_toArray, List.getElem_cons_succ, List.getElem_cons_zero, List.setIfInBounds_toArray, List.set_cons_succ, List.set_cons_zero]
      refine wm_q2 (i := 5) (v := ?v4_5) (some 24) rfl rfl rfl HS2 (fun W HS => ?y4_5) ?_
      case y4_5 => (go_simp; try with_reducible rfl)
      simp only [Act.put, List.getElem_toArray, List.getElem_cons_succ, List.getElem_cons_zero, List.setIfInBounds_toArray, List.set_cons_succ, List.set_cons_zero]
      refine wm_q2 (i := 7) (v := ?v4_6) (some 26) rfl rfl rfl HS2 (fun W HS => ?y4_6) ?_
      case y4_6 => (go_simp; try with_reducible rfl)
      simp only [Act.put, List.getElem_toArray, List.getElem_cons_succ, List.getElem_cons_zero, List.setIfInBounds_toArray, List.set_cons_succ, List.set_cons_zero]
      refine wm_q2 (i := 8) (v := ?v4_7) (some 27) rfl rfl rfl HS2 (fun W HS => ?y4_7) ?_
      case y4_7 => (go_simp; try with_reducible rfl)
      simp only [Act.put, List.getElem_toArray, List.getElem_cons_succ, List.getElem_cons_zero, List.setIfInBounds_toArray, List.set_cons_succ, List.set_cons_zero]
      (refine wm_q2x (i := 9) (some 28) rfl rfl rfl HS2 (ry_slice_lo _ 23 _ _ _ _ _ _ encK_len Try.underlying40 sz23 (hR.mem HM) rfl rfl (by omega) (by omega)) ?_); intro v28 hv28
      simp only [Act.put, List.getElem_toArray, List.getElem_cons_succ, List.getElem_cons_zero, List.setIfInBounds_toArray, List.set_cons_succ, List.set_cons_zero]
      refine wm_q2 (i := 10) (v := ?v4_8) (some 29) rfl rfl rfl HS2 (fun W HS => ?y4_8) ?_
      case y4_8 => (go_simp; try with_reducible rfl)
      simp only [Act.put, List.getElem_toArray, List.getElem_cons_succ, List.getElem_cons_zero, List.setIfInBounds_toArray, List.set_cons_succ, List.set_cons_zero]
      refine wm_q2 (i := 11) (v := ?v4_9) (some 30) rfl rfl rfl HS2 (fun W HS => ?y4_9) ?_
      case y4_9 => (go_simp; try with_reducible rfl)
      simp only [Act.put, List.getElem_toArray, List.getElem_cons_succ, List.getElem_cons_zero, List.setIfInBounds_toArray, List.set_cons_succ, List.set_cons_zero]
      refine wm_e0 (i := 6) rfl ?_
      go_wp2_with (first
        | (go_at_call 63; go_must (first | ((with_reducible refine (ih (splitN l.length) (by omega) _ _ _ _ us _ (by rw [List.length_take]; omega) (by omega) (by omega) (by omega) (hv22 _ hR) HM.rot1).mono ?_); rintro e W ⟨u2, vs2, R2, rfl, hT2, hX2, HM'⟩; clear HM; have HM := HM'.sink2; clear HM'; have hz2 := txl_take hT2 hs) | ((with_reducible refine (ih (l.length - splitN l.length) (by omega) _ _ _ _ (us ++ vs2) _ (by rw [List.length_drop]; omega) (by omega) (by omega) (by rw [List.length_append]; omega) (hv28 _ hR) HM).mono ?_); rintro e W ⟨u3, vs3, R3, rfl, hT3, hX3, HM'⟩; clear HM; have HM := HM'.sink2; clear HM'; have hz3 := txl_drop hT3 hs))))
      refine ⟨HM.held (by simp), ?_⟩
      clear HS1 HS2
      have HS1 : Held w0 W [] := HM.held (by simp)
      have HS2 : Held w0 W [] := HM.held (by simp)
      refine wm_e0 (i := 12) rfl ?_
      go_wp2_with (first
        | (go_at_call 63; go_must (first | ((with_reducible refine (ih (splitN l.length) (by omega) _ _ _ _ us _ (by rw [List.length_take]; omega) (by omega) (by omega) (by omega) (hv22 _ hR) HM.rot1).mono ?_); rintro e W ⟨u2, vs2, R2, rfl, hT2, hX2, HM'⟩; clear HM; have HM := HM'.sink2; clear HM'; have hz2 := txl_take hT2 hs) | ((with_reducible refine (ih (l.length - splitN l.length) (by omega) _ _ _ _ (us ++ vs2) _ (by rw [List.length_drop]; omega) (by omega) (by omega) (by rw [List.length_append]; omega) (hv28 _ hR) HM).mono ?_); rintro e W ⟨u3, vs3, R3, rfl, hT3, hX3, HM'⟩; clear HM; have HM := HM'.sink2; clear HM'; have hz3 := txl_drop hT3 hs))))
      refine ⟨HM.held (by simp), ?_⟩
      clear HS1 HS2
      have HS1 : Held w0 W [] := HM.held (by simp)
      have HS2 : Held w0 W [] := HM.held (by simp)
      refine wm_e0 (i := 13) rfl ?_
      go_wp2_with (first
        | (go_at_call 67; go_must (((with_reducible refine (texts2_c w0 _ b _ _ _ _ _ HM (by rw [List.length_append, List.length_append]; omega)).mono ?_)); rintro e W ⟨u4, p4, rfl, HM'⟩; clear HM; rename _ => HM)))
      refine ⟨HM.held (by simp), ?_⟩
      clear HS1 HS2
      have HS1 : Held w0 W [] := HM.held (by simp)
      have HS2 : Held w0 W [] := HM.held (by simp)
      refine wm_e0 (i := 14) rfl ?_
      go_wp2_with (first
        | ((with_reducible refine st_ 23 ?_); go_must ((refine wl_store_blk _ _ _ _ _ _ _ rfl rfl HM (.there (.there (.there .here))) (by rw [kc_size]; exact sz23) (by simp only [kc_size]) (kc_one _) ?_); clear HM; intro W HM)))
      refine ⟨HM.held (by simp), ?_⟩
      clear HS1 HS2
      have HS1 : Held w0 W [] := HM.held (by simp)
      have HS2 : Held w0 W [] := HM.held (by simp)
      refine wm_nilN ?_
      clear HS1 HS2
      go_wp2_with (fail)
      refine ret1 rfl (by (exact res_row HM rfl m3 Try.underlying23 rfl (by rw [kc_size]; exact sz23))) rfl ?_
      rw [rootL_two l (by omega), textsL_two l (by omega)]
      have H := HM.drop4
      rw [List.append_assoc us, List.append_assoc us] at H
      refine ⟨u4, vs2 ++ vs3 ++ [(p4, textNode (rootL (l.take (splitN l.length))) (rootL (l.drop (splitN l.length))))], rowT (p4, textNode (rootL (l.take (splitN l.length))) (rootL (l.drop (splitN l.length)))) :: (R3 ++ R2), rfl, ?_, ?_, ?_⟩
      · exact (hT2.app hT3).app (TxIs.one _ _)
      · exact ((Tx.inr [rowT _] (Tx.inr R3 hX2)).app (Tx.inr [rowT _] (Tx.inl R2 hX3))).app (Tx.one m0)
      · simpa only [List.cons_append, List.append_assoc] using H
end
end Go.Proofs.Ythdekionepfmdaa
