/- Roots: by the program's fold and by the reference. -/
import Derived.Test.YthdekionepfmdaaTxb
set_option linter.unusedVariables false
set_option linter.unusedSimpArgs false
set_option maxRecDepth 8000
namespace Go.Proofs.Ythdekionepfmdaa
open Go.RowKit

section
variable {P : Program} {ops : Array Oper} {rest : List Oper} {a : Act} {Q : Exit → Act → World → Prop} {W : World} {dst : Option Tmp} {tt : TypeId} {ps : String} {af : Array Edge} {gd : Option (Nat × Bool)}
theorem wl_load_key {e : TypeId} (ty : TypeId) (x : Operand) (p : Value) (k : Key) (hx : a.eval x = p) (hp : At W p (encK k)) (hu : P.underlying ty = some (.array 16 e)) (hi : (P.info? ty).map (·.size) = some 16)
    (h : wpList P ops Q rest (a.put dst (.agg (kc k))) W) : wpList P ops Q (Oper.mk dst (.load ty x) tt ps af none :: rest) a W :=
  wl_load_at ty x p (encK k) _ hx hp hu rfl (by rw [encK_len]; exact hi) h
theorem ry_load_key {e : TypeId} (ty : TypeId) (x : Operand) (p : Value) (k : Key) (hx : a.eval x = p) (hp : At W p (encK k)) (hu : P.underlying ty = some (.array 16 e)) (hi : (P.info? ty).map (·.size) = some 16) :
    (execOp a.eval (Oper.mk dst (.load ty x) tt ps af gd)).run P W = .ok (.value (.agg (kc k))) W :=
  ry_load_at ty x p (encK k) _ hx hp hu rfl (by rw [encK_len]; exact hi)
end
theorem splitN_lt (n : Nat) (h : 2 ≤ n) : 1 ≤ splitN n ∧ splitN n < n := by
  have h0 : n - 1 ≠ 0 := by omega
  have h1 : splitN n = 2 ^ Nat.log2 (n - 1) := by rw [splitN, lenN, if_neg h0]; rfl
  have h2 := Nat.log2_self_le h0
  rw [h1]
  exact ⟨Nat.one_le_two_pow, by omega⟩
def rootL (l : List Key) : Key :=
  if h0 : l.length = 0 then digestL []
  else if h1 : l.length = 1 then digLeaf (l[0]'(by omega))
  else digNode (rootL (l.take (splitN l.length))) (rootL (l.drop (splitN l.length)))
termination_by l.length
decreasing_by
  · have := splitN_lt l.length (by omega); simp; omega
  · have := splitN_lt l.length (by omega); simp; omega
theorem rootL_one (l : List Key) (h : l.length = 1) : rootL l = digLeaf (l[0]'(by omega)) := by
  rw [rootL, dif_neg (by omega), dif_pos h]
theorem rootL_two (l : List Key) (h : 2 ≤ l.length) : rootL l = digNode (rootL (l.take (splitN l.length))) (rootL (l.drop (splitN l.length))) := by
  rw [rootL, dif_neg (by omega), dif_neg (by omega)]

set_option maxHeartbeats 1600000 in
theorem foldK_c : ∀ (n : Nat) (l : List Key) (v : Value) (w : World), l.length = n → 1 ≤ n → n ≤ 256 → RdL encK 16 w v l →
    Calls Try.prog 63 #[v, .func (.func 123) #[] #[], .func (.func 124) #[] #[]] w fun e w' => e = .returned (.agg (kc (rootL l))) ∧ Mem w w' [] := by
  intro n
  induction n using Nat.strongRecOn with
  | ind n ih =>
    intro l v w hln h1 hn hR
    subst hln
    have HM := Mem.start w
    by_cases hone : l.length = 1
    · have hb : (l.length : Int) = 1 := by omega
      clear ih
      have hx : l[(0 : Int).toNat]? = some (l[0]'(by omega)) := List.getElem?_eq_getElem (by omega)
      go_enter Try.func63, Try.ntmps63
      go_wp2_with (first
        | ((with_reducible refine s_ 6 ?_); go_must (refine wl_alloc (dst := some 6) (cs := kc zeroKey) 23 _ Try.zeroValue23 kc_zero HM ?_; clear HM; intro b6 W HM))
        | ((with_reducible refine s_ 9 ?_); go_must ((refine wl_len (dst := some 9) _ _ _ _ 23 Try.underlying40 rfl (hR.mem HM) ?_)))
        | ((with_reducible refine s_ 13 ?_); go_must ((refine wl_index (dst := some 13) _ 23 _ _ _ _ _ _ _ encK_len Try.underlying40 sz23 rfl rfl (hR.mem HM) (by omega) (by first | assumption | simp [*]) ?_); intro p13 hp13))
        | ((with_reducible refine s_ 14 ?_); go_must (refine wl_load_key (dst := some 14) _ _ _ _ rfl hp13 Try.underlying23 sz23 ?_))
        | ((with_reducible refine st_ 23 ?_); go_must ((refine wl_store_blk _ _ _ _ _ _ _ rfl rfl HM .here (by rw [kc_size]; exact sz23) (by simp only [kc_size]) (kc_one _) ?_); clear HM; intro W HM))
        | (go_at_call 123; go_must (((with_reducible refine (root1_c _ _).mono ?_)); rintro e W ⟨rfl, HM'⟩; replace HM := HM.keep HM'.below; clear HM')))
      refine ret1 rfl (by (exact res_row HM rfl m0 Try.underlying23 rfl (by rw [kc_size]; exact sz23))) rfl ?_
      exact ⟨by rw [rootL_one l hone], HM.base⟩
    · have hb : ¬ (l.length : Int) = 1 := by omega
      have hs := splitN_lt l.length (by omega)
      have e : (((splitN l.length : Nat) : Int)).toNat = splitN l.length := Int.toNat_natCast _
      have hi1 : (0 : Int) ≤ ((splitN l.length : Nat) : Int) := by omega
      have hi2 : ((splitN l.length : Nat) : Int) ≤ (l.length : Int) := by omega
      go_enter Try.func63, Try.ntmps63
      go_wp2_with (first
        | ((with_reducible refine s_ 6 ?_); go_must (refine wl_alloc (dst := some 6) (cs := kc zeroKey) 23 _ Try.zeroValue23 kc_zero HM ?_; clear HM; intro b6 W HM))
        | ((with_reducible refine s_ 9 ?_); go_must ((refine wl_len (dst := some 9) _ _ _ _ 23 Try.underlying40 rfl (hR.mem HM) ?_)))
        | ((with_reducible refine s_ 17 ?_); go_must ((refine wl_len (dst := some 17) _ _ _ _ 23 Try.underlying40 rfl (hR.mem HM) ?_)))
        | (go_at_call 72; go_must (((with_reducible refine (split_c _ (by omega) (by omega) _).mono ?_)); rintro e W ⟨rfl, HM'⟩; replace HM := HM.keep HM'.below; clear HM')))
      replace HM := HM.drew
      refine wp_region_mixN (fun W => Held w W []) (fun W => Held w W []) (.cons (2, 0) (.cons (2, 1) (.cons (2, 2) (.cons (2, 3) (.cons (2, 4) (.cons (2, 5) (.cons (2, 7) (.cons (2, 8) (.cons (2, 9) (.cons (2, 10) (.cons (2, 11) (.cons (0, 6) (.cons (0, 12) (.cons (0, 13) (.cons (0, 14) .nil))))))))))))))) [] (by kernel_rfl) (by kernel_rfl) (by kernel_rfl) (fun W h => Held.weak h (by simp)) (HM.held (by simp)) ?_
      revert HM; generalize World.drew _ = W; intro HM
      have HS1 : Held w W [] := HM.held (by simp)
      have HS2 : Held w W [] := HM.held (by simp)
      refine wm_q2 (i := 0) (v := ?v4_1) (some 19) rfl rfl rfl HS2 (fun W HS => ?y4_1) ?_
      case y4_1 => (go_simp; try with_reducible rfl)
      simp only [Act.put, List.getElem_toArray, List.getElem_cons_succ, List.getElem_cons_zero, List.setIfInBounds_toArray, List.set_cons_succ, List.set_cons_zero]
      refine wm_q2 (i := 1) (v := ?v4_2) (some 20) rfl rfl rfl HS2 (fun W HS => ?y4_2) ?_
      case y4_2 => (go_simp; try with_reducible rfl)
      simp only [Act.put, List.getElem_toArray, List.getElem_cons_succ, List.getElem_cons_zero, List.setIfInBounds_toArray, List.set_cons_succ, List.set_cons_zero]
      refine wm_q2 (i := 2) (v := ?v4_3) (some 21) rfl rfl rfl HS2 (fun W HS => ?y4_3) ?_
      case y4_3 => (go_simp; try with_reducible rfl)
      simp only [Act.put, List.getElem_toArray, List.getElem_cons_succ, List.getElem_cons_zero, List.setIfInBounds_toArray, List.set_cons_succ, List.set_cons_zero]
      (refine wm_q2x (i := 3) (some 22) rfl rfl rfl HS2 (ry_slice_hi _ 23 _ _ _ _ _ _ encK_len Try.underlying40 sz23 (hR.mem HM) rfl rfl (by omega) (by omega)) ?_); intro v22 hv22
      simp only [Act.put, List.getElem_toArray, List.getElem_cons_succ, List.getElem_cons_zero, List.setIfInBounds_toArray, List.set_cons_succ, List.set_cons_zero]
      refine wm_q2 (i := 4) (v := ?v4_4) (some 23) rfl rfl rfl HS2 (fun W HS => ?y4_4) ?_
      case y4_4 => (go_simp; try with_reducible rfl)
      simp only [Act.put, List.getElem_toArray, List.getElem_cons_succ, List.getElem_cons_zero, List.setIfInBounds_toArray, List.set_cons_succ, List.set_cons_zero]
      refine wm_q2 (i := 5) (v := ?v4_5) (some 24) rfl rfl rfl HS2 (fun W HS => ?y4_5) ?_
      case y4_5 => (go_simp; try with_reducible rfl)
      simp only [Act.put, List.getElem_toArray, List.getElem_cons_succ, List.getElem_cons_zero, List.setIfInBounds_toArray, List.set_cons_succ, List.set_cons_zero]
      refine wm_q2 (i := 7) (v := ?v4_6) (some 26) rfl rfl rfl HS2 (fun W HS => ?y4_6) ?_
      case y4_6 => (go_simp; try with_reducible rfl)
      simp only [Act.put, List.getElem_toArray, List.getElem_cons_succ, List.getElem_cons_zero, List.setIfInBounds_toArray, List.set_cons_succ, List.set_cons_zero]
      refine wm_q2 (i := 8) (v := ?v4_7) (some 27) rfl rfl rfl HS2 (fun W HS => ?y4_7) ?_
      case y4_7 => (go_simp; try with_reducible rfl)
      simp only [Act.put, List.getElem_toArray, List.getElem_cons_succ, List.getElem_cons_zero, List.setIfInBounds_toArray, List.set_cons_succ, List.set_cons_zero]
      (refine wm_q2x (i := 9) (some 28) rfl rfl rfl HS2 (ry_slice_lo _ 23 _ _ _ _ _ _ encK_len Try.underlying40 sz23 (hR.mem HM) rfl rfl (by omega) (by omega)) ?_); intro v28 hv28
      simp only [Act.put, List.getElem_toArray, List.getElem_cons_succ, List.getElem_cons_zero, List.setIfInBounds_toArray, List.set_cons_succ, List.set_cons_zero]
      refine wm_q2 (i := 10) (v := ?v4_8) (some 29) rfl rfl rfl HS2 (fun W HS => ?y4_8) ?_
      case y4_8 => (go_simp; try with_reducible rfl)
      simp only [Act.put, List.getElem_toArray, List.getElem_cons_succ, List.getElem_cons_zero, List.setIfInBounds_toArray, List.set_cons_succ, List.set_cons_zero]
      refine wm_q2 (i := 11) (v := ?v4_9) (some 30) rfl rfl rfl HS2 (fun W HS => ?y4_9) ?_
      case y4_9 => (go_simp; try with_reducible rfl)
      simp only [Act.put, List.getElem_toArray, List.getElem_cons_succ, List.getElem_cons_zero, List.setIfInBounds_toArray, List.set_cons_succ, List.set_cons_zero]
      refine wm_e0 (i := 6) rfl ?_
      go_wp2_with (first
        | (go_at_call 63; go_must (((with_reducible refine (ih (splitN l.length) (by omega) _ _ _ (by rw [List.length_take]; omega) (by omega) (by omega) (hv22 _ (hR.mem HM))).mono ?_)); rintro e W ⟨rfl, HM'⟩; replace HM := HM.keep HM'.below; clear HM')))
      refine ⟨HM.held (by simp), ?_⟩
      clear HS1 HS2
      have HS1 : Held w W [] := HM.held (by simp)
      have HS2 : Held w W [] := HM.held (by simp)
      refine wm_e0 (i := 12) rfl ?_
      go_wp2_with (first
        | (go_at_call 63; go_must (((with_reducible refine (ih (l.length - splitN l.length) (by omega) _ _ _ (by rw [List.length_drop]; omega) (by omega) (by omega) (hv28 _ (hR.mem HM))).mono ?_)); rintro e W ⟨rfl, HM'⟩; replace HM := HM.keep HM'.below; clear HM')))
      refine ⟨HM.held (by simp), ?_⟩
      clear HS1 HS2
      have HS1 : Held w W [] := HM.held (by simp)
      have HS2 : Held w W [] := HM.held (by simp)
      refine wm_e0 (i := 13) rfl ?_
      go_wp2_with (first
        | (go_at_call 124; go_must (((with_reducible refine (root2_c _ _ _).mono ?_)); rintro e W ⟨rfl, HM'⟩; replace HM := HM.keep HM'.below; clear HM')))
      refine ⟨HM.held (by simp), ?_⟩
      clear HS1 HS2
      have HS1 : Held w W [] := HM.held (by simp)
      have HS2 : Held w W [] := HM.held (by simp)
      refine wm_e0 (i := 14) rfl ?_
      go_wp2_with (first
        | ((with_reducible refine st_ 23 ?_); go_must ((refine wl_store_blk _ _ _ _ _ _ _ rfl rfl HM .here (by rw [kc_size]; exact sz23) (by simp only [kc_size]) (kc_one _) ?_); clear HM; intro W HM)))
      refine ⟨HM.held (by simp), ?_⟩
      clear HS1 HS2
      have HS1 : Held w W [] := HM.held (by simp)
      have HS2 : Held w W [] := HM.held (by simp)
      refine wm_nilN ?_
      clear HS1 HS2
      go_wp2_with (fail)
      refine ret1 rfl (by (exact res_row HM rfl m0 Try.underlying23 rfl (by rw [kc_size]; exact sz23))) rfl ?_
      rw [rootL_two l (by omega)]
      exact ⟨rfl, HM.base⟩
end Go.Proofs.Ythdekionepfmdaa
