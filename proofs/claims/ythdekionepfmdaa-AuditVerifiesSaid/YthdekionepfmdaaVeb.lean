/- What a path gives for a leaf: the program's climb. -/
import Derived.Test.YthdekionepfmdaaVea
set_option linter.unusedVariables false
set_option linter.unusedSimpArgs false
set_option maxRecDepth 8000
namespace Go.Proofs.Ythdekionepfmdaa
open Go.RowKit

def lastK (l : List Key) : Key := l.getD (l.length - 1) zeroKey
theorem lastK_at (l : List Key) (h : 1 ≤ l.length) : l[l.length - 1]? = some (lastK l) := by
  rw [lastK, List.getD_eq_getElem?_getD, List.getElem?_eq_getElem (by omega)]; rfl
/-- The root that a path gives for a leaf, and the texts that are digested. -/
def climbL (leaf : Key) (n i : Nat) (p : List Key) : Key :=
  if h : n ≤ 1 then digLeaf leaf
  else if i < splitN n then digNode (climbL leaf (splitN n) i (p.take (p.length - 1))) (lastK p)
  else digNode (lastK p) (climbL leaf (n - splitN n) (i - splitN n) (p.take (p.length - 1)))
termination_by n
decreasing_by
  · have := splitN_lt n (by omega); omega
  · have := splitN_lt n (by omega); omega
theorem climbL_one (leaf : Key) (n i : Nat) (p : List Key) (h : n ≤ 1) : climbL leaf n i p = digLeaf leaf := by rw [climbL, dif_pos h]
theorem climbL_lo (leaf : Key) (n i : Nat) (p : List Key) (h : 2 ≤ n) (hi : i < splitN n) : climbL leaf n i p = digNode (climbL leaf (splitN n) i (p.take (p.length - 1))) (lastK p) := by rw [climbL, dif_neg (by omega), if_pos hi]
theorem climbL_hi (leaf : Key) (n i : Nat) (p : List Key) (h : 2 ≤ n) (hi : ¬ i < splitN n) : climbL leaf n i p = digNode (lastK p) (climbL leaf (n - splitN n) (i - splitN n) (p.take (p.length - 1))) := by rw [climbL, dif_neg (by omega), if_neg hi]
def climbT (leaf : Key) (n i : Nat) (p : List Key) : List (List UInt8) :=
  if h : n ≤ 1 then [textLeaf leaf]
  else if i < splitN n then climbT leaf (splitN n) i (p.take (p.length - 1)) ++ [textNode (climbL leaf (splitN n) i (p.take (p.length - 1))) (lastK p)]
  else climbT leaf (n - splitN n) (i - splitN n) (p.take (p.length - 1)) ++ [textNode (lastK p) (climbL leaf (n - splitN n) (i - splitN n) (p.take (p.length - 1)))]
termination_by n
decreasing_by
  · have := splitN_lt n (by omega); omega
  · have := splitN_lt n (by omega); omega
theorem climbT_one (leaf : Key) (n i : Nat) (p : List Key) (h : n ≤ 1) : climbT leaf n i p = [textLeaf leaf] := by rw [climbT, dif_pos h]
theorem climbT_lo (leaf : Key) (n i : Nat) (p : List Key) (h : 2 ≤ n) (hi : i < splitN n) : climbT leaf n i p = climbT leaf (splitN n) i (p.take (p.length - 1)) ++ [textNode (climbL leaf (splitN n) i (p.take (p.length - 1))) (lastK p)] := by rw [climbT, dif_neg (by omega), if_pos hi]
theorem climbT_hi (leaf : Key) (n i : Nat) (p : List Key) (h : 2 ≤ n) (hi : ¬ i < splitN n) : climbT leaf n i p = climbT leaf (n - splitN n) (i - splitN n) (p.take (p.length - 1)) ++ [textNode (lastK p) (climbL leaf (n - splitN n) (i - splitN n) (p.take (p.length - 1)))] := by rw [climbT, dif_neg (by omega), if_neg hi]
theorem climbT_len : ∀ (n : Nat) (leaf : Key) (i : Nat) (p : List Key), (climbT leaf n i p).length ≤ n + 1 := by
  intro n
  induction n using Nat.strongRecOn with
  | ind n ih =>
    intro leaf i p
    by_cases h : n ≤ 1
    · rw [climbT_one leaf n i p h]; simp
    · have hs := splitN_lt n (by omega)
      by_cases hi : i < splitN n
      · rw [climbT_lo leaf n i p (by omega) hi]; have := ih (splitN n) (by omega) leaf i (p.take (p.length - 1)); simp; omega
      · rw [climbT_hi leaf n i p (by omega) hi]; have := ih (n - splitN n) (by omega) leaf (i - splitN n) (p.take (p.length - 1)); simp; omega
theorem Mem.rot2 {w0 W : World} {c d x y : It} {L : List It} (h : Mem w0 W (c :: d :: x :: y :: L)) : Mem w0 W (x :: y :: c :: d :: L) :=
  h.perm (List.perm_append_comm_assoc [c, d] [x, y] L)
theorem Mem.sink22 {w0 W : World} {x y : It} {A B : List It} {z z' : It} (h : Mem w0 W (x :: y :: (A ++ z :: z' :: B))) : Mem w0 W (x :: y :: z :: z' :: (A ++ B)) :=
  h.perm (List.Perm.cons x (List.Perm.cons y (List.perm_append_comm_assoc A [z, z'] B)))

section
attribute [local irreducible] rowT
set_option maxHeartbeats 3200000 in
theorem climb_c (w0 : World) (b : Nat) (leaf : Key) : ∀ (n i : Nat) (p : List Key) (v : Value) (W : World) (u : Value) (us : List (Value × List UInt8)) (L : List It), 1 ≤ n → n ≤ 128 → i < n → p.length = stepsN n i → us.length + 2 * n ≤ 1000000 → RdL encK 16 w0 v p →
    Mem w0 W (.blk b #[u] 119 :: .row u 24 1 us.length (valsT us) :: L) →
    Calls Try.prog 134 #[.pointer (some ⟨b, 0, none⟩), .agg (kc leaf), .int .i64 (n : Int), .int .i64 (i : Int), v] W fun e W' =>
      ∃ u' vs R, e = .returned (.agg (kc (climbL leaf n i p))) ∧ TxIs vs (climbT leaf n i p) ∧ Tx vs R ∧ Mem w0 W' (.blk b #[u'] 119 :: .row u' 24 1 (us ++ vs).length (valsT (us ++ vs)) :: (R ++ L)) := by
  intro n
  induction n using Nat.strongRecOn with
  | ind n ih =>
    intro i p v W u us L h1 hn hi hpl hus hR HM
    by_cases hone : n = 1
    · have hb : (n : Int) = 1 := by omega
      clear ih hpl
      rw [climbL_one leaf n i p (by omega), climbT_one leaf n i p (by omega)]
      go_enter Try.func134, Try.ntmps134
      go_wp2_with (first
        | ((with_reducible refine s_ 6 ?_); go_must (refine wl_box (dst := some 6) (cs := kc leaf) _ _ _ rfl rfl HM ?_; clear HM; intro b6 W HM))
        | ((with_reducible refine s_ 10 ?_); go_must (refine wl_alloc (dst := some 10) (cs := kc zeroKey) 23 _ Try.zeroValue23 kc_zero HM ?_; clear HM; intro b10 W HM))
        | ((with_reducible refine ld_ 23 ?_); go_must (refine wl_load_blk _ _ _ _ _ _ rfl HM (by repeat first | exact List.mem_cons_self .. | refine List.mem_cons_of_mem _ ?_) Try.underlying23 rfl (by rw [kc_size]; exact sz23) ?_))
        | ((with_reducible refine st_ 23 ?_); go_must ((refine wl_store_blk _ _ _ _ _ _ _ rfl rfl HM (.there (.there (.there .here))) (by rw [kc_size]; exact sz23) (by simp only [kc_size]) (kc_one _) ?_); clear HM; intro W HM))
        | (go_at_call 66; go_must (((with_reducible refine (leafTextT _ _).mono ?_)); rintro e W ⟨q, rfl, HM'⟩; replace HM := HM.join HM'; clear HM'; simp only [List.cons_append, List.nil_append] at HM))
        | (go_at_call 65; go_must (((with_reducible refine (take_c w0 _ b u q us (textLeaf leaf) _ HM.fetch2 m0 (by rw [textLeaf_len]; decide) (by omega)).mono ?_)); rintro e W ⟨u', rfl, HM'⟩; clear HM; rename _ => HM)))
      refine ret1 rfl (by (exact res_row HM rfl m3 Try.underlying23 rfl (by rw [kc_size]; exact sz23))) rfl ?_
      exact ⟨u', [(q, textLeaf leaf)], [rowT (q, textLeaf leaf)], rfl, TxIs.one _ _, Tx.one m0, HM.drop5⟩
    · have hb : ¬ (n : Int) = 1 := by omega
      have hs := splitN_lt n (by omega)
      have hpn : 1 ≤ p.length := by
        rw [hpl]
        by_cases hlo : i < splitN n
        · rw [stepsN_lo n i (by omega) hlo]; omega
        · rw [stepsN_hi n i (by omega) hlo]; omega
      have hple : p.length ≤ 128 := by rw [hpl]; have := stepsN_le n i; omega
      have hw0 : IntKind.i64.wrap ((p.length : Int) - 1) = (p.length : Int) - 1 := by rw [IntKind.wrap_i64]; omega
      have ht : ((p.length : Int) - 1).toNat = p.length - 1 := by omega
      have hj1 : (0 : Int) ≤ (p.length : Int) - 1 := by omega
      have hj2 : (p.length : Int) - 1 ≤ (p.length : Int) := by omega
      have hj3 : (1 : Int) ≤ (p.length : Int) := by omega
      have hx : p[((p.length : Int) - 1).toNat]? = some (lastK p) := by rw [ht]; exact lastK_at p hpn
      by_cases hlo : i < splitN n
      · have hb2 : (i : Int) < ((splitN n : Nat) : Int) := by omega
        have hpl2 : (p.take ((p.length : Int) - 1).toNat).length = stepsN (splitN n) i := by
          rw [List.length_take, ht, hpl, stepsN_lo n i (by omega) hlo]; omega
        clear hpl
        rw [climbL_lo leaf n i p (by omega) hlo, climbT_lo leaf n i p (by omega) hlo]
        go_enter Try.func134, Try.ntmps134
        go_wp2_with (first
          | ((with_reducible refine s_ 6 ?_); go_must (refine wl_box (dst := some 6) (cs := kc leaf) _ _ _ rfl rfl HM ?_; clear HM; intro b6 W HM))
          | ((with_reducible refine s_ 10 ?_); go_must (refine wl_alloc (dst := some 10) (cs := kc zeroKey) 23 _ Try.zeroValue23 kc_zero HM ?_; clear HM; intro b10 W HM))
          | ((with_reducible refine s_ 22 ?_); go_must ((refine wl_len (dst := some 22) _ _ _ _ 23 Try.underlying40 rfl (hR.mem HM) ?_)))
          | (go_at_call 72; go_must (((with_reducible refine (split_c _ (by omega) (by omega) _).mono ?_)); rintro e W ⟨rfl, HM'⟩; replace HM := HM.keep HM'.below; clear HM')))
        replace HM := HM.drew
        refine wp_region_mixN (fun W => Held w0 W [.blk b6 (kc leaf) 23]) (fun W => Held w0 W [.blk b6 (kc leaf) 23]) (.cons (2, 0) (.cons (2, 1) (.cons (2, 2) (.cons (2, 3) (.cons (2, 4) (.cons (2, 5) (.cons (2, 6) (.cons (2, 7) (.cons (2, 9) (.cons (2, 10) (.cons (2, 11) (.cons (2, 12) (.cons (0, 8) (.cons (0, 13) (.cons (0, 14) (.cons (0, 15) .nil)))))))))))))))) [] (by kernel_rfl) (by kernel_rfl) (by kernel_rfl) (fun W h => Held.weak h (by simp)) (HM.held (by simp)) ?_
        revert HM; generalize World.drew _ = W; intro HM
        have HS1 : Held w0 W [.blk b6 (kc leaf) 23] := HM.held (by simp)
        have HS2 : Held w0 W [.blk b6 (kc leaf) 23] := HM.held (by simp)
        refine wm_q2 (i := 0) (v := ?v5_1) (some 27) rfl rfl rfl HS2 (fun W HS => ?y5_1) ?_
        case y5_1 => (go_simp; try with_reducible rfl)
        simp only [Act.put, List.getElem_toArray, List.getElem_cons_succ, List.getElem_cons_zero, List.setIfInBounds_toArray, List.set_cons_succ, List.set_cons_zero]
        refine wm_q2 (i := 1) (v := ?v5_2) (some 28) rfl rfl rfl HS2 (fun W HS => ?y5_2) ?_
        case y5_2 => (go_simp; try with_reducible rfl)
        simp only [Act.put, List.getElem_toArray, List.getElem_cons_succ, List.getElem_cons_zero, List.setIfInBounds_toArray, List.set_cons_succ, List.set_cons_zero]
        refine wm_q2 (i := 2) (some 29) rfl rfl rfl HS2 (fun W HS => (by ((refine ry_load_blk _ _ _ _ _ _ HS ?_ m0 Try.underlying23 rfl (by rw [kc_size]; exact sz23); rfl)))) ?_
        simp only [Act.put, List.getElem_toArray, List.getElem_cons_succ, List.getElem_cons_zero, List.setIfInBounds_toArray, List.set_cons_succ, List.set_cons_zero]
        refine wm_q2 (i := 3) (v := ?v5_4) (some 30) rfl rfl rfl HS2 (fun W HS => ?y5_4) ?_
        case y5_4 => (go_simp; try with_reducible rfl)
        simp only [Act.put, List.getElem_toArray, List.getElem_cons_succ, List.getElem_cons_zero, List.setIfInBounds_toArray, List.set_cons_succ, List.set_cons_zero]
        refine wm_q2 (i := 4) (v := ?v5_5) (some 31) rfl rfl rfl HS2 (fun W HS => ?y5_5) ?_
        case y5_5 => (go_simp; try with_reducible rfl)
        simp only [Act.put, List.getElem_toArray, List.getElem_cons_succ, List.getElem_cons_zero, List.setIfInBounds_toArray, List.set_cons_succ, List.set_cons_zero]
        refine wm_q2 (i := 5) (v := ?v5_6) (some 32) rfl rfl rfl HS2 (fun W HS => ?y5_6) ?_
        case y5_6 => (go_simp; try with_reducible rfl)
        simp only [Act.put, List.getElem_toArray, List.getElem_cons_succ, List.getElem_cons_zero, List.setIfInBounds_toArray, List.set_cons_succ, List.set_cons_zero]
        refine wm_q2 (i := 6) (v := ?v5_7) (some 33) rfl rfl rfl HS2 (fun W HS => ?y5_7) ?_
        case y5_7 => (go_simp; try with_reducible rfl)
        simp only [Act.put, List.getElem_toArray, List.getElem_cons_succ, List.getElem_cons_zero, List.setIfInBounds_toArray, List.set_cons_succ, List.set_cons_zero]
        (refine wm_q2x (i := 7) (some 34) rfl rfl rfl HS2 (ry_slice_hi _ 23 _ _ _ _ _ _ encK_len Try.underlying40 sz23 (hR.mem HM) rfl rfl (by omega) (by omega)) ?_); intro v34 hv34
        simp only [Act.put, List.getElem_toArray, List.getElem_cons_succ, List.getElem_cons_zero, List.setIfInBounds_toArray, List.set_cons_succ, List.set_cons_zero]
        refine wm_q2 (i := 9) (v := ?v5_8) (some 36) rfl rfl rfl HS2 (fun W HS => ?y5_8) ?_
        case y5_8 => (go_simp; try with_reducible rfl)
        simp only [Act.put, List.getElem_toArray, List.getElem_cons_succ, List.getElem_cons_zero, List.setIfInBounds_toArray, List.set_cons_succ, List.set_cons_zero]
        refine wm_q2 (i := 10) (v := ?v5_9) (some 37) rfl rfl rfl HS2 (fun W HS => ?y5_9) ?_
        case y5_9 => (go_simp; try with_reducible rfl)
        simp only [Act.put, List.getElem_toArray, List.getElem_cons_succ, List.getElem_cons_zero, List.setIfInBounds_toArray, List.set_cons_succ, List.set_cons_zero]
        (refine wm_q2x (i := 11) (some 38) rfl rfl rfl HS2 (ry_index _ 23 _ _ _ _ _ _ _ (fun W => Held w0 W [.blk b6 (kc leaf) 23]) W encK_len Try.underlying40 sz23 HS2 (fun W HS => hR.held HS) rfl rfl (by omega) (by first | assumption | simp [*])) ?_); intro p38 hp38
        simp only [Act.put, List.getElem_toArray, List.getElem_cons_succ, List.getElem_cons_zero, List.setIfInBounds_toArray, List.set_cons_succ, List.set_cons_zero]
        refine wm_q2 (i := 12) (some 39) rfl rfl rfl HS2 (fun W HS => (by refine ry_load_key _ _ _ _ ?_ (hp38 W HS) Try.underlying23 sz23; rfl)) ?_
        simp only [Act.put, List.getElem_toArray, List.getElem_cons_succ, List.getElem_cons_zero, List.setIfInBounds_toArray, List.set_cons_succ, List.set_cons_zero]
        refine wm_e0 (i := 8) rfl ?_
        go_wp2_with (first
          | (go_at_call 134; go_must (((with_reducible refine (ih (splitN n) (by omega) i _ _ _ u us _ (by omega) (by omega) (by omega) hpl2 (by omega) (hv34 _ hR) HM.rot2).mono ?_)); rintro e W ⟨u1, vs1, R1, rfl, hT1, hX1, HM'⟩; clear HM; have HM := HM'.sink22; clear HM'; have hz1 := hT1.len; have hz2 := climbT_len (splitN n) leaf i (p.take ((p.length : Int) - 1).toNat))))
        refine ⟨HM.held (by simp), ?_⟩
        clear HS1 HS2
        have HS1 : Held w0 W [.blk b6 (kc leaf) 23] := HM.held (by simp)
        have HS2 : Held w0 W [.blk b6 (kc leaf) 23] := HM.held (by simp)
        refine wm_e0 (i := 13) rfl ?_
        go_wp2_with (first
          | (go_at_call 68; go_must (((with_reducible refine (nodeTextT _ _ _).mono ?_)); rintro e W ⟨q, rfl, HM'⟩; replace HM := HM.join HM'; clear HM'; simp only [List.cons_append, List.nil_append] at HM)))
        refine ⟨HM.held (by simp), ?_⟩
        clear HS1 HS2
        have HS1 : Held w0 W [.blk b6 (kc leaf) 23] := HM.held (by simp)
        have HS2 : Held w0 W [.blk b6 (kc leaf) 23] := HM.held (by simp)
        refine wm_e0 (i := 14) rfl ?_
        go_wp2_with (first
          | (go_at_call 65; go_must (((with_reducible refine (take_c w0 _ b u1 q (us ++ vs1) _ _ HM.rot1 m0 (by rw [textNode_len]; decide) (by rw [List.length_append]; omega)).mono ?_)); rintro e W ⟨u2, rfl, HM'⟩; clear HM; rename _ => HM)))
        refine ⟨HM.held (by simp), ?_⟩
        clear HS1 HS2
        have HS1 : Held w0 W [.blk b6 (kc leaf) 23] := HM.held (by simp)
        have HS2 : Held w0 W [.blk b6 (kc leaf) 23] := HM.held (by simp)
        refine wm_e0 (i := 15) rfl ?_
        go_wp2_with (first
          | ((with_reducible refine st_ 23 ?_); go_must ((refine wl_store_blk _ _ _ _ _ _ _ rfl rfl HM (.there (.there (.there .here))) (by rw [kc_size]; exact sz23) (by simp only [kc_size]) (kc_one _) ?_); clear HM; intro W HM)))
        refine ⟨HM.held (by simp), ?_⟩
        clear HS1 HS2
        have HS1 : Held w0 W [.blk b6 (kc leaf) 23] := HM.held (by simp)
        have HS2 : Held w0 W [.blk b6 (kc leaf) 23] := HM.held (by simp)
        refine wm_nilN ?_
        clear HS1 HS2
        go_wp2_with (fail)
        refine ret1 rfl (by (exact res_row HM rfl m3 Try.underlying23 rfl (by rw [kc_size]; exact sz23))) rfl ?_
        have H := HM.drop5
        rw [List.append_assoc us] at H
        rw [ht] at hT1
        exact ⟨u2, _, _, rfl, hT1.app (TxIs.one q _), (Tx.inr [rowT _] hX1).app (Tx.one m0), H⟩
      · have hb2 : ¬ (i : Int) < ((splitN n : Nat) : Int) := by omega
        have hw1 : IntKind.i64.wrap ((n : Int) - ((splitN n : Nat) : Int)) = ((n - splitN n : Nat) : Int) := by rw [IntKind.wrap_i64]; omega
        have hw2 : IntKind.i64.wrap ((i : Int) - ((splitN n : Nat) : Int)) = ((i - splitN n : Nat) : Int) := by rw [IntKind.wrap_i64]; omega
        have hpl2 : (p.take ((p.length : Int) - 1).toNat).length = stepsN (n - splitN n) (i - splitN n) := by
          rw [List.length_take, ht, hpl, stepsN_hi n i (by omega) hlo]; omega
        clear hpl
        rw [climbL_hi leaf n i p (by omega) hlo, climbT_hi leaf n i p (by omega) hlo]
        go_enter Try.func134, Try.ntmps134
        go_wp2_with (first
          | ((with_reducible refine s_ 6 ?_); go_must (refine wl_box (dst := some 6) (cs := kc leaf) _ _ _ rfl rfl HM ?_; clear HM; intro b6 W HM))
          | ((with_reducible refine s_ 10 ?_); go_must (refine wl_alloc (dst := some 10) (cs := kc zeroKey) 23 _ Try.zeroValue23 kc_zero HM ?_; clear HM; intro b10 W HM))
          | ((with_reducible refine s_ 22 ?_); go_must ((refine wl_len (dst := some 22) _ _ _ _ 23 Try.underlying40 rfl (hR.mem HM) ?_)))
          | (go_at_call 72; go_must (((with_reducible refine (split_c _ (by omega) (by omega) _).mono ?_)); rintro e W ⟨rfl, HM'⟩; replace HM := HM.keep HM'.below; clear HM')))
        replace HM := HM.drew
        refine wp_region_mixN (fun W => Held w0 W [.blk b6 (kc leaf) 23]) (fun W => Held w0 W [.blk b6 (kc leaf) 23]) (.cons (2, 0) (.cons (2, 1) (.cons (2, 2) (.cons (2, 3) (.cons (2, 4) (.cons (2, 5) (.cons (2, 6) (.cons (2, 7) (.cons (2, 8) (.cons (2, 9) (.cons (2, 10) (.cons (2, 11) (.cons (2, 12) (.cons (2, 13) (.cons (2, 14) (.cons (2, 15) (.cons (0, 16) (.cons (0, 17) (.cons (0, 18) (.cons (0, 19) .nil)))))))))))))))))))) [] (by kernel_rfl) (by kernel_rfl) (by kernel_rfl) (fun W h => Held.weak h (by simp)) (HM.held (by simp)) ?_
        revert HM; generalize World.drew _ = W; intro HM
        have HS1 : Held w0 W [.blk b6 (kc leaf) 23] := HM.held (by simp)
        have HS2 : Held w0 W [.blk b6 (kc leaf) 23] := HM.held (by simp)
        refine wm_q2 (i := 0) (v := ?v6_11) (some 42) rfl rfl rfl HS2 (fun W HS => ?y6_11) ?_
        case y6_11 => (go_simp; try with_reducible rfl)
        simp only [Act.put, List.getElem_toArray, List.getElem_cons_succ, List.getElem_cons_zero, List.setIfInBounds_toArray, List.set_cons_succ, List.set_cons_zero]
        refine wm_q2 (i := 1) (v := ?v6_12) (some 43) rfl rfl rfl HS2 (fun W HS => ?y6_12) ?_
        case y6_12 => (go_simp; try with_reducible rfl)
        simp only [Act.put, List.getElem_toArray, List.getElem_cons_succ, List.getElem_cons_zero, List.setIfInBounds_toArray, List.set_cons_succ, List.set_cons_zero]
        refine wm_q2 (i := 2) (v := ?v6_13) (some 44) rfl rfl rfl HS2 (fun W HS => ?y6_13) ?_
        case y6_13 => (go_simp; try with_reducible rfl)
        simp only [Act.put, List.getElem_toArray, List.getElem_cons_succ, List.getElem_cons_zero, List.setIfInBounds_toArray, List.set_cons_succ, List.set_cons_zero]
        (refine wm_q2x (i := 3) (some 45) rfl rfl rfl HS2 (ry_index _ 23 _ _ _ _ _ _ _ (fun W => Held w0 W [.blk b6 (kc leaf) 23]) W encK_len Try.underlying40 sz23 HS2 (fun W HS => hR.held HS) rfl rfl (by omega) (by first | assumption | simp [*])) ?_); intro p45 hp45
        simp only [Act.put, List.getElem_toArray, List.getElem_cons_succ, List.getElem_cons_zero, List.setIfInBounds_toArray, List.set_cons_succ, List.set_cons_zero]
        refine wm_q2 (i := 4) (some 46) rfl rfl rfl HS2 (fun W HS => (by refine ry_load_key _ _ _ _ ?_ (hp45 W HS) Try.underlying23 sz23; rfl)) ?_
        simp only [Act.put, List.getElem_toArray, List.getElem_cons_succ, List.getElem_cons_zero, List.setIfInBounds_toArray, List.set_cons_succ, List.set_cons_zero]
        refine wm_q2 (i := 5) (v := ?v6_15) (some 47) rfl rfl rfl HS2 (fun W HS => ?y6_15) ?_
        case y6_15 => (go_simp; try with_reducible rfl)
        simp only [Act.put, List.getElem_toArray, List.getElem_cons_succ, List.getElem_cons_zero, List.setIfInBounds_toArray, List.set_cons_succ, List.set_cons_zero]
        refine wm_q2 (i := 6) (some 48) rfl rfl rfl HS2 (fun W HS => (by ((refine ry_load_blk _ _ _ _ _ _ HS ?_ m0 Try.underlying23 rfl (by rw [kc_size]; exact sz23); rfl)))) ?_
        simp only [Act.put, List.getElem_toArray, List.getElem_cons_succ, List.getElem_cons_zero, List.setIfInBounds_toArray, List.set_cons_succ, List.set_cons_zero]
        refine wm_q2 (i := 7) (v := ?v6_17) (some 49) rfl rfl rfl HS2 (fun W HS => ?y6_17) ?_
        case y6_17 => (go_simp; try with_reducible rfl)
        simp only [Act.put, List.getElem_toArray, List.getElem_cons_succ, List.getElem_cons_zero, List.setIfInBounds_toArray, List.set_cons_succ, List.set_cons_zero]
        refine wm_q2 (i := 8) (v := ?v6_18) (some 50) rfl rfl rfl HS2 (fun W HS => ?y6_18) ?_
        case y6_18 => (go_simp; try with_reducible rfl)
        simp only [Act.put, List.getElem_toArray, List.getElem_cons_succ, List.getElem_cons_zero, List.setIfInBounds_toArray, List.set_cons_succ, List.set_cons_zero]
        refine wm_q2 (i := 9) (v := ?v6_19) (some 51) rfl rfl rfl HS2 (fun W HS => ?y6_19) ?_
        case y6_19 => (go_simp; try with_reducible rfl)
        simp only [Act.put, List.getElem_toArray, List.getElem_cons_succ, List.getElem_cons_zero, List.setIfInBounds_toArray, List.set_cons_succ, List.set_cons_zero]
        refine wm_q2 (i := 10) (v := ?v6_20) (some 52) rfl rfl rfl HS2 (fun W HS => ?y6_20) ?_
        case y6_20 => (go_simp; try with_reducible rfl)
        simp only [Act.put, List.getElem_toArray, List.getElem_cons_succ, List.getElem_cons_zero, List.setIfInBounds_toArray, List.set_cons_succ, List.set_cons_zero]
        refine wm_q2 (i := 11) (v := ?v6_21) (some 53) rfl rfl rfl HS2 (fun W HS => ?y6_21) ?_
        case y6_21 => (go_simp; try with_reducible rfl)
        simp only [Act.put, List.getElem_toArray, List.getElem_cons_succ, List.getElem_cons_zero, List.setIfInBounds_toArray, List.set_cons_succ, List.set_cons_zero]
        refine wm_q2 (i := 12) (v := ?v6_22) (some 54) rfl rfl rfl HS2 (fun W HS => ?y6_22) ?_
        case y6_22 => (go_simp; try with_reducible rfl)
        simp only [Act.put, List.getElem_toArray, List.getElem_cons_succ, List.getElem_cons_zero, List.setIfInBounds_toArray, List.set_cons_succ, List.set_cons_zero]
        refine wm_q2 (i := 13) (v := ?v6_23) (some 55) rfl rfl rfl HS2 (fun W HS => ?y6_23) ?_
        case y6_23 => (go_simp; try with_reducible rfl)
        simp only [Act.put, List.getElem_toArray, List.getElem_cons_succ, List.getElem_cons_zero, List.setIfInBounds_toArray, List.set_cons_succ, List.set_cons_zero]
        refine wm_q2 (i := 14) (v := ?v6_24) (some 56) rfl rfl rfl HS2 (fun W HS => ?y6_24) ?_
        case y6_24 => (go_simp; try with_reducible rfl)
        simp only [Act.put, List.getElem_toArray, List.getElem_cons_succ, List.getElem_cons_zero, List.setIfInBounds_toArray, List.set_cons_succ, List.set_cons_zero]
        (refine wm_q2x (i := 15) (some 57) rfl rfl rfl HS2 (ry_slice_hi _ 23 _ _ _ _ _ _ encK_len Try.underlying40 sz23 (hR.mem HM) rfl rfl (by omega) (by omega)) ?_); intro v57 hv57
        simp only [Act.put, List.getElem_toArray, List.getElem_cons_succ, List.getElem_cons_zero, List.setIfInBounds_toArray, List.set_cons_succ, List.set_cons_zero]
        refine wm_e0 (i := 16) rfl ?_
        go_wp2_with (first
          | (go_at_call 134; go_must (((with_reducible refine (ih (n - splitN n) (by omega) (i - splitN n) _ _ _ u us _ (by omega) (by omega) (by omega) hpl2 (by omega) (hv57 _ hR) HM.rot2).mono ?_)); rintro e W ⟨u1, vs1, R1, rfl, hT1, hX1, HM'⟩; clear HM; have HM := HM'.sink22; clear HM'; have hz1 := hT1.len; have hz2 := climbT_len (n - splitN n) leaf (i - splitN n) (p.take ((p.length : Int) - 1).toNat))))
        refine ⟨HM.held (by simp), ?_⟩
        clear HS1 HS2
        have HS1 : Held w0 W [.blk b6 (kc leaf) 23] := HM.held (by simp)
        have HS2 : Held w0 W [.blk b6 (kc leaf) 23] := HM.held (by simp)
        refine wm_e0 (i := 17) rfl ?_
        go_wp2_with (first
          | (go_at_call 68; go_must (((with_reducible refine (nodeTextT _ _ _).mono ?_)); rintro e W ⟨q, rfl, HM'⟩; replace HM := HM.join HM'; clear HM'; simp only [List.cons_append, List.nil_append] at HM)))
        refine ⟨HM.held (by simp), ?_⟩
        clear HS1 HS2
        have HS1 : Held w0 W [.blk b6 (kc leaf) 23] := HM.held (by simp)
        have HS2 : Held w0 W [.blk b6 (kc leaf) 23] := HM.held (by simp)
        refine wm_e0 (i := 18) rfl ?_
        go_wp2_with (first
          | (go_at_call 65; go_must (((with_reducible refine (take_c w0 _ b u1 q (us ++ vs1) _ _ HM.rot1 m0 (by rw [textNode_len]; decide) (by rw [List.length_append]; omega)).mono ?_)); rintro e W ⟨u2, rfl, HM'⟩; clear HM; rename _ => HM)))
        refine ⟨HM.held (by simp), ?_⟩
        clear HS1 HS2
        have HS1 : Held w0 W [.blk b6 (kc leaf) 23] := HM.held (by simp)
        have HS2 : Held w0 W [.blk b6 (kc leaf) 23] := HM.held (by simp)
        refine wm_e0 (i := 19) rfl ?_
        go_wp2_with (first
          | ((with_reducible refine st_ 23 ?_); go_must ((refine wl_store_blk _ _ _ _ _ _ _ rfl rfl HM (.there (.there (.there .here))) (by rw [kc_size]; exact sz23) (by simp only [kc_size]) (kc_one _) ?_); clear HM; intro W HM)))
        refine ⟨HM.held (by simp), ?_⟩
        clear HS1 HS2
        have HS1 : Held w0 W [.blk b6 (kc leaf) 23] := HM.held (by simp)
        have HS2 : Held w0 W [.blk b6 (kc leaf) 23] := HM.held (by simp)
        refine wm_nilN ?_
        clear HS1 HS2
        go_wp2_with (fail)
        refine ret1 rfl (by (exact res_row HM rfl m3 Try.underlying23 rfl (by rw [kc_size]; exact sz23))) rfl ?_
        have H := HM.drop5
        rw [List.append_assoc us] at H
        rw [ht] at hT1
        exact ⟨u2, _, _, rfl, hT1.app (TxIs.one q _), (Tx.inr [rowT _] hX1).app (Tx.one m0), H⟩
end
end Go.Proofs.Ythdekionepfmdaa
