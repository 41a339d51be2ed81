/- Which proofs are accepted, and their texts: the program's given, gives, Verify, PathTexts and the reference's. -/
import Derived.Test.YthdekionepfmdaaVeb
set_option linter.unusedVariables false
set_option linter.unusedSimpArgs false
set_option maxRecDepth 8000
namespace Go.Proofs.Ythdekionepfmdaa
open Go.RowKit

theorem Mem.bk {w0 W : World} {x : It} {A B : List It} (h : Mem w0 W (x :: (A ++ B))) : Mem w0 W (B ++ (x :: A)) := h.perm (List.perm_append_comm (l₁ := x :: A) (l₂ := B))
def vfB (root leaf : Key) (n i : Int) (p : List Key) : Bool := fitB n i p.length && decide (climbL leaf n.toNat i.toNat p = root)
def vfE (n i : Int) (p : List Key) : Int := if fitB n i p.length = true then 0 else 8
def vfT (leaf : Key) (n i : Int) (p : List Key) : List (List UInt8) := if fitB n i p.length = true then climbT leaf n.toNat i.toNat p else []
theorem vf_no (root leaf : Key) (n i : Int) (p : List Key) (h : fitB n i p.length = false) : vfB root leaf n i p = false ∧ vfE n i p = 8 ∧ vfT leaf n i p = [] := by simp [vfB, vfE, vfT, h]
theorem vf_ok (root leaf : Key) (n i : Nat) (p : List Key) (h : fitB n i p.length = true) : vfB root leaf n i p = decide (climbL leaf n i p = root) ∧ vfE n i p = 0 ∧ vfT leaf n i p = climbT leaf n i p := by simp [vfB, vfE, vfT, h]

section
attribute [local irreducible] rowT
attribute [local go_sem] keyEqI
set_option maxHeartbeats 800000 in
theorem given_c (leaf : Key) (n i : Nat) (v : Value) (p : List Key) (w : World) (hR : RdL encK 16 w v p) (h1 : 1 ≤ n) (hn : n ≤ 128) (hi : i < n) (hpl : p.length = stepsN n i) :
    Calls Try.prog 79 #[.agg (kc leaf), .agg #[.int .i64 (n : Int), .int .i64 (i : Int), v]] w fun e w' => ∃ u, e = .returned (.tuple #[.agg (kc (climbL leaf n i p)), u]) ∧ Given w w' u (climbT leaf n i p) := by
  have HM := Mem.start w
  go_enter Try.func79, Try.ntmps79
  go_wp2_with (first
    | ((with_reducible refine s_ 2 ?_); go_must (refine wl_box (dst := some 2) (cs := kc leaf) _ _ _ rfl rfl HM ?_; clear HM; intro b2 W HM))
    | ((with_reducible refine s_ 3 ?_); go_must (refine wl_box (dst := some 3) (cs := #[.int .i64 (n : Int), .int .i64 (i : Int), v]) _ _ _ rfl rfl HM ?_; clear HM; intro b3 W HM))
    | ((with_reducible refine s_ 4 ?_); go_must (refine wl_alloc (dst := some 4) (cs := kc zeroKey) 23 _ Try.zeroValue23 kc_zero HM ?_; clear HM; intro b4 W HM))
    | ((with_reducible refine s_ 6 ?_); go_must (refine wl_alloc (dst := some 6) (cs := #[Value.slice none 0 0]) 119 _ Try.zeroValue119 rfl HM ?_; clear HM; intro b6 W HM))
    | ((with_reducible refine s_ 7 ?_); go_must (refine wl_alloc (dst := some 7) (cs := kc zeroKey) 23 _ Try.zeroValue23 kc_zero HM ?_; clear HM; intro b7 W HM))
    | ((with_reducible refine ld_ 23 ?_); go_must (refine wl_load_blk _ _ _ _ _ _ rfl HM (by repeat first | exact List.mem_cons_self .. | refine List.mem_cons_of_mem _ ?_) Try.underlying23 rfl (by rw [kc_size]; exact sz23) ?_))
    | ((with_reducible refine ld_ 3 ?_); go_must (refine wl_load_cell _ _ _ _ _ _ _ _ rfl HM (by repeat first | exact List.mem_cons_self .. | refine List.mem_cons_of_mem _ ?_) (by rfl) Try.underlying3 rfl ?_))
    | ((with_reducible refine ld_ 40 ?_); go_must (refine wl_load_cell _ _ _ _ _ _ _ _ rfl HM (by repeat first | exact List.mem_cons_self .. | refine List.mem_cons_of_mem _ ?_) (by rfl) Try.underlying40 rfl ?_))
    | ((with_reducible refine st_ 23 ?_); go_must ((refine wl_store_blk _ _ _ _ _ _ _ rfl rfl HM .here (by rw [kc_size]; exact sz23) (by simp only [kc_size]) (kc_one _) ?_); clear HM; intro W HM))
    | (go_at_call 134; go_must (((with_reducible refine (climb_c w b6 leaf n i p v _ _ [] _ h1 hn hi hpl (by simp; omega) hR HM.nilT).mono ?_)); rintro e W ⟨u1, vs1, R1, rfl, hT1, hX1, HM'⟩; clear HM; have HM := HM'.sink2; clear HM')))
  replace HM := HM.drew
  refine wp_region_mixN (fun W => Held w W [.blk b7 (kc (climbL leaf n i p)) 23, .blk b6 #[u1] 119]) (fun W => Held w W [.blk b7 (kc (climbL leaf n i p)) 23, .blk b6 #[u1] 119]) (.cons (2, 0) (.cons (2, 1) (.cons (0, 2) (.cons (2, 3) .nil)))) [] (by kernel_rfl) (by kernel_rfl) (by kernel_rfl) (fun W h => Held.weak h (by simp)) (HM.held (by simp)) ?_
  revert HM; generalize World.drew _ = W; intro HM
  have HS1 : Held w W [.blk b7 (kc (climbL leaf n i p)) 23, .blk b6 #[u1] 119] := HM.held (by simp)
  have HS2 : Held w W [.blk b7 (kc (climbL leaf n i p)) 23, .blk b6 #[u1] 119] := HM.held (by simp)
  refine wm_q2 (i := 0) (some 16) rfl rfl rfl HS2 (fun W HS => (by ((refine ry_load_blk _ _ _ _ _ _ HS ?_ m0 Try.underlying23 rfl (by rw [kc_size]; exact sz23); rfl)))) ?_
  simp only [Act.put, List.getElem_toArray, List.getElem_cons_succ, List.getElem_cons_zero, List.setIfInBounds_toArray, List.set_cons_succ, List.set_cons_zero]
  refine wm_q2 (i := 1) (some 17) rfl rfl rfl HS2 (fun W HS => (by (exact ry_load_cell _ _ _ _ _ _ _ _ HS rfl m1 rfl Try.underlying119 rfl))) ?_
  simp only [Act.put, List.getElem_toArray, List.getElem_cons_succ, List.getElem_cons_zero, List.setIfInBounds_toArray, List.set_cons_succ, List.set_cons_zero]
  refine wm_e0 (i := 2) rfl ?_
  go_wp2_with (first
    | ((with_reducible refine st_ 23 ?_); go_must ((refine wl_store_blk _ _ _ _ _ _ _ rfl rfl HM (.there (.there (.there .here))) (by rw [kc_size]; exact sz23) (by simp only [kc_size]) (kc_one _) ?_); clear HM; intro W HM)))
  refine ⟨HM.held (by simp), ?_⟩
  clear HS1 HS2
  have HS1 : Held w W [.blk b7 (kc (climbL leaf n i p)) 23, .blk b6 #[u1] 119] := HM.held (by simp)
  have HS2 : Held w W [.blk b7 (kc (climbL leaf n i p)) 23, .blk b6 #[u1] 119] := HM.held (by simp)
  refine wm_q2 (i := 3) (v := ?v3_3) (some 5) rfl rfl rfl HS2 (fun W HS => ?y3_3) ?_
  case y3_3 => (go_simp; try with_reducible rfl)
  simp only [Act.put, List.getElem_toArray, List.getElem_cons_succ, List.getElem_cons_zero, List.setIfInBounds_toArray, List.set_cons_succ, List.set_cons_zero]
  refine wm_nilN ?_
  clear HS1 HS2
  go_wp2_with (fail)
  refine ret2 rfl (by (exact res_row HM rfl m3 Try.underlying23 rfl (by rw [kc_size]; exact sz23))) (res_tmp rfl) rfl ?_
  exact ⟨u1, rfl, vs1, R1, hT1, hX1, HM.sub (.cons _ (.cons _ (.cons_cons _ (.cons _ (List.sublist_append_left _ _)))))⟩

set_option maxHeartbeats 3200000 in
theorem rgiven_c (leaf : Key) : ∀ (n i : Nat) (v : Value) (p : List Key) (w : World), RdL encK 16 w v p → 1 ≤ n → n ≤ 128 → i < n → p.length = stepsN n i →
    Calls Try.prog 80 #[.agg (kc leaf), .int .i64 (n : Int), .int .i64 (i : Int), v] w fun e w' => ∃ u, e = .returned (.tuple #[.agg (kc (climbL leaf n i p)), u]) ∧ Given w w' u (climbT leaf n i p) := by
  intro n
  induction n using Nat.strongRecOn with
  | ind n ih =>
    intro i v p w hR h1 hn hi hpl
    have HM := Mem.start w
    by_cases hone : n = 1
    · have hb : (n : Int) = 1 := by omega
      clear ih hpl
      rw [climbL_one leaf n i p (by omega), climbT_one leaf n i p (by omega)]
      go_enter Try.func80, Try.ntmps80
      go_wp2_with (first
        | ((with_reducible refine s_ 4 ?_); go_must (refine wl_box (dst := some 4) (cs := kc leaf) _ _ _ rfl rfl HM ?_; clear HM; intro b4 W HM))
        | ((with_reducible refine s_ 8 ?_); go_must (refine wl_alloc (dst := some 8) (cs := kc zeroKey) 23 _ Try.zeroValue23 kc_zero HM ?_; clear HM; intro b8 W HM))
        | ((with_reducible refine s_ 27 ?_); go_must ((refine wl_slice1V (dst := some 27) _ _ _ q Try.underlying45 Try.sizeOf24 Try.zeroValue24 (text_cells HM m0) rfl HM ?_; clear HM; intro b27 W HM; replace HM := HM.toRow 1 1 .here rfl (by simp [maxLen]))))
        | ((with_reducible refine ld_ 23 ?_); go_must (refine wl_load_blk _ _ _ _ _ _ rfl HM (by repeat first | exact List.mem_cons_self .. | refine List.mem_cons_of_mem _ ?_) Try.underlying23 rfl (by rw [kc_size]; exact sz23) ?_))
        | ((with_reducible refine st_ 23 ?_); go_must ((refine wl_store_blk _ _ _ _ _ _ _ rfl rfl HM (.there (.there .here)) (by rw [kc_size]; exact sz23) (by simp only [kc_size]) (kc_one _) ?_); clear HM; intro W HM))
        | (go_at_call 126; go_must (((with_reducible refine (rleafTextT _ _).mono ?_)); rintro e W ⟨q, rfl, HM'⟩; replace HM := HM.join HM'; clear HM'; simp only [List.cons_append, List.nil_append] at HM))
        | (go_at_call 125; go_must (((with_reducible refine (rdigest_c _ (textLeaf leaf) _ (rd_text HM m0) (by rw [textLeaf_len]; decide)).mono ?_)); rintro e W ⟨rfl, HM'⟩; replace HM := HM.keep HM'.below; clear HM')))
      refine ret2 rfl (by (exact res_row HM rfl m2 Try.underlying23 rfl (by rw [kc_size]; exact sz23))) (res_tmp rfl) rfl ?_
      exact ⟨_, rfl, [(q, _)], [rowT (q, _)], TxIs.one _ _, Tx.one m0, HM.sub (.cons_cons _ (.cons_cons _ (List.nil_sublist _)))⟩
    · have hb : ¬ (n : Int) = 1 := by omega
      have hs := splitN_lt n (by omega)
      have hpn : 1 ≤ p.length := by
        rw [hpl]
        by_cases hlo : i < splitN n
        · rw [stepsN_lo n i (by omega) hlo]; omega
        · rw [stepsN_hi n i (by omega) hlo]; omega
      have hple : p.length ≤ 128 := by rw [hpl]; have := stepsN_le n i; omega
      have hw0 : IntKind.i64.wrap ((p.length : Int) - 1) = (p.length : Int) - 1 := by rw [IntKind.wrap_i64]; omega
      have ht : ((p.length : Int) - 1).toNat = p.length - 1 := by omega
      have hj1 : (0 : Int) ≤ (p.length : Int) - 1 := by omega
      have hj2 : (p.length : Int) - 1 ≤ (p.length : Int) := by omega
      have hj3 : (1 : Int) ≤ (p.length : Int) := by omega
      have hx : p[((p.length : Int) - 1).toNat]? = some (lastK p) := by rw [ht]; exact lastK_at p hpn
      by_cases hlo : i < splitN n
      · have hb2 : (i : Int) < ((splitN n : Nat) : Int) := by omega
        have hpl2 : (p.take ((p.length : Int) - 1).toNat).length = stepsN (splitN n) i := by
          rw [List.length_take, ht, hpl, stepsN_lo n i (by omega) hlo]; omega
        clear hpl
        rw [climbL_lo leaf n i p (by omega) hlo, climbT_lo leaf n i p (by omega) hlo]
        have hz2 := climbT_len (splitN n) leaf i (p.take ((p.length : Int) - 1).toNat)
        go_enter Try.func80, Try.ntmps80
        go_wp2_with (first
          | ((with_reducible refine s_ 4 ?_); go_must (refine wl_box (dst := some 4) (cs := kc leaf) _ _ _ rfl rfl HM ?_; clear HM; intro b4 W HM))
          | ((with_reducible refine s_ 8 ?_); go_must (refine wl_alloc (dst := some 8) (cs := kc zeroKey) 23 _ Try.zeroValue23 kc_zero HM ?_; clear HM; intro b8 W HM))
          | (go_at_call 127; go_must (((with_reducible refine (rsplit_c _ (by omega) (by omega) _).mono ?_)); rintro e W ⟨rfl, HM'⟩; replace HM := HM.keep HM'.below; clear HM')))
        replace HM := HM.drew
        refine wp_region_mixN (fun W => Held w W []) (fun W => Held w W []) (.cons (2, 0) (.cons (2, 1) (.cons (2, 2) (.cons (2, 3) (.cons (2, 4) (.cons (2, 5) (.cons (2, 6) (.cons (2, 7) (.cons (2, 8) (.cons (2, 9) (.cons (2, 10) (.cons (0, 11) (.cons (2, 12) (.cons (0, 13) .nil)))))))))))))) [] (by kernel_rfl) (by kernel_rfl) (by kernel_rfl) (fun W h => Held.weak h (by simp)) (HM.held (by simp)) ?_
        revert HM; generalize World.drew _ = W; intro HM
        have HS1 : Held w W [] := HM.held (by simp)
        have HS2 : Held w W [] := HM.held (by simp)
        refine wm_q2 (i := 0) (v := ?v5_4) (some 30) rfl rfl rfl HS2 (fun W HS => ?y5_4) ?_
        case y5_4 => (go_simp; try with_reducible rfl)
        simp only [Act.put, List.getElem_toArray, List.getElem_cons_succ, List.getElem_cons_zero, List.setIfInBounds_toArray, List.set_cons_succ, List.set_cons_zero]
        refine wm_q2 (i := 1) (v := ?v5_5) (some 31) rfl rfl rfl HS2 (fun W HS => ?y5_5) ?_
        case y5_5 => (go_simp; try with_reducible rfl)
        simp only [Act.put, List.getElem_toArray, List.getElem_cons_succ, List.getElem_cons_zero, List.setIfInBounds_toArray, List.set_cons_succ, List.set_cons_zero]
        refine wm_q2 (i := 2) (some 32) rfl rfl rfl HS2 (fun W HS => (by ((refine ry_len _ _ _ _ 23 Try.underlying40 (hR.held HS) ?_; rfl)))) ?_
        simp only [Act.put, List.getElem_toArray, List.getElem_cons_succ, List.getElem_cons_zero, List.setIfInBounds_toArray, List.set_cons_succ, List.set_cons_zero]
        refine wm_q2 (i := 3) (v := ?v5_7) (some 33) rfl rfl rfl HS2 (fun W HS => ?y5_7) ?_
        case y5_7 => (go_simp; try with_reducible rfl)
        simp only [Act.put, List.getElem_toArray, List.getElem_cons_succ, List.getElem_cons_zero, List.setIfInBounds_toArray, List.set_cons_succ, List.set_cons_zero]
        (refine wm_q2x (i := 4) (some 34) rfl rfl rfl HS2 (ry_slice_hi _ 23 _ _ _ _ _ _ encK_len Try.underlying40 sz23 (hR.mem HM) rfl rfl (by omega) (by omega)) ?_); intro v34 hv34
        simp only [Act.put, List.getElem_toArray, List.getElem_cons_succ, List.getElem_cons_zero, List.setIfInBounds_toArray, List.set_cons_succ, List.set_cons_zero]
        refine wm_q2 (i := 5) (v := ?v5_8) (some 35) rfl rfl rfl HS2 (fun W HS => ?y5_8) ?_
        case y5_8 => (go_simp; try with_reducible rfl)
        simp only [Act.put, List.getElem_toArray, List.getElem_cons_succ, List.getElem_cons_zero, List.setIfInBounds_toArray, List.set_cons_succ, List.set_cons_zero]
        refine wm_q2 (i := 6) (v := ?v5_9) (some 36) rfl rfl rfl HS2 (fun W HS => ?y5_9) ?_
        case y5_9 => (go_simp; try with_reducible rfl)
        simp only [Act.put, List.getElem_toArray, List.getElem_cons_succ, List.getElem_cons_zero, List.setIfInBounds_toArray, List.set_cons_succ, List.set_cons_zero]
        refine wm_q2 (i := 7) (some 37) rfl rfl rfl HS2 (fun W HS => (by ((refine ry_len _ _ _ _ 23 Try.underlying40 (hR.held HS) ?_; rfl)))) ?_
        simp only [Act.put, List.getElem_toArray, List.getElem_cons_succ, List.getElem_cons_zero, List.setIfInBounds_toArray, List.set_cons_succ, List.set_cons_zero]
        refine wm_q2 (i := 8) (v := ?v5_11) (some 38) rfl rfl rfl HS2 (fun W HS => ?y5_11) ?_
        case y5_11 => (go_simp; try with_reducible rfl)
        simp only [Act.put, List.getElem_toArray, List.getElem_cons_succ, List.getElem_cons_zero, List.setIfInBounds_toArray, List.set_cons_succ, List.set_cons_zero]
        (refine wm_q2x (i := 9) (some 39) rfl rfl rfl HS2 (ry_index _ 23 _ _ _ _ _ _ _ (fun W => Held w W []) W encK_len Try.underlying40 sz23 HS2 (fun W HS => hR.held HS) rfl rfl (by omega) (by first | assumption | simp [*])) ?_); intro p39 hp39
        simp only [Act.put, List.getElem_toArray, List.getElem_cons_succ, List.getElem_cons_zero, List.setIfInBounds_toArray, List.set_cons_succ, List.set_cons_zero]
        refine wm_q2 (i := 10) (some 40) rfl rfl rfl HS2 (fun W HS => (by refine ry_load_key _ _ _ _ ?_ (hp39 W HS) Try.underlying23 sz23; rfl)) ?_
        simp only [Act.put, List.getElem_toArray, List.getElem_cons_succ, List.getElem_cons_zero, List.setIfInBounds_toArray, List.set_cons_succ, List.set_cons_zero]
        refine wm_e0 (i := 11) rfl ?_
        go_wp2_with (first
          | ((with_reducible refine s_ 13 ?_); go_must (refine wl_alloc (dst := some 13) (cs := kc zeroKey) 23 _ Try.zeroValue23 kc_zero HM ?_; clear HM; intro b13 W HM)))
        refine ⟨HM.held (by simp), ?_⟩
        clear HS1 HS2
        have HS1 : Held w W [] := HM.held (by simp)
        have HS2 : Held w W [] := HM.held (by simp)
        refine wm_q2 (i := 12) (v := ?v5_13) (some 12) rfl rfl rfl HS2 (fun W HS => ?y5_13) ?_
        case y5_13 => (go_simp; try with_reducible rfl)
        simp only [Act.put, List.getElem_toArray, List.getElem_cons_succ, List.getElem_cons_zero, List.setIfInBounds_toArray, List.set_cons_succ, List.set_cons_zero]
        refine wm_e0 (i := 13) rfl ?_
        go_wp2_with (first
          | ((with_reducible refine st_ 23 ?_); go_must ((refine wl_store_blk _ _ _ _ _ _ _ rfl rfl HM .here (by rw [kc_size]; exact sz23) (by simp only [kc_size]) (kc_one _) ?_); clear HM; intro W HM)))
        refine ⟨HM.held (by simp), ?_⟩
        clear HS1 HS2
        have HS1 : Held w W [] := HM.held (by simp)
        have HS2 : Held w W [] := HM.held (by simp)
        refine wm_nilN ?_
        clear HS1 HS2
        go_wp2_with (first
          | ((with_reducible refine s_ 16 ?_); go_must (refine wl_alloc (dst := some 16) (cs := kc zeroKey) 23 _ Try.zeroValue23 kc_zero HM ?_; clear HM; intro b16 W HM))
          | ((with_reducible refine s_ 76 ?_); go_must ((refine wl_slice1V (dst := some 76) _ _ _ q Try.underlying45 Try.sizeOf24 Try.zeroValue24 (text_cells HM m0) rfl HM ?_; clear HM; intro b76 W HM)))
          | ((with_reducible refine s_ 77 ?_); go_must ((refine wl_appendM (dst := some 77) (enc := encV) _ _ _ _ _ _ _ _ _ _ _ [q] Try.underlying45 inf24 rfl (by decide) encV_len (by intro y hy; rw [List.mem_singleton.1 hy]; exact encV_one q (text_one HM m1)) HM (.there (.there (.there (.there (.there (.there .here)))))) (RdL.of_blk (HM.blk m0) _ 1 rfl (by simp [encV]) (by decide)) rfl rfl (by decide) (by have := hT1.len; simp; omega) ?_; clear HM; intro v77 W HM; try dsimp only at HM)))
          | ((with_reducible refine ld_ 23 ?_); go_must (refine wl_load_blk _ _ _ _ _ _ rfl HM (by repeat first | exact List.mem_cons_self .. | refine List.mem_cons_of_mem _ ?_) Try.underlying23 rfl (by rw [kc_size]; exact sz23) ?_))
          | ((with_reducible refine st_ 23 ?_); go_must ((first | refine wl_store_blk _ _ _ _ _ _ _ rfl rfl HM .here (by rw [kc_size]; exact sz23) (by simp only [kc_size]) (kc_one _) ?_ | refine wl_store_blk _ _ _ _ _ _ _ rfl rfl HM (.there (.there (.there (.there .here)))) (by rw [kc_size]; exact sz23) (by simp only [kc_size]) (kc_one _) ?_); clear HM; intro W HM))
          | (go_at_call 80; go_must (((with_reducible refine (ih (splitN n) (by omega) i _ _ _ (hv34 _ (hR.mem HM)) (by omega) (by omega) (by omega) hpl2).mono ?_)); rintro e W ⟨u1, rfl, us1, R1, hT1, hX1, HM'⟩; replace HM := HM.join HM'; clear HM'; simp only [List.cons_append, List.nil_append] at HM; replace HM := HM.bk; simp only [List.cons_append, List.nil_append] at HM))
          | (go_at_call 128; go_must (((with_reducible refine (rnodeTextT _ _ _).mono ?_)); rintro e W ⟨q, rfl, HM'⟩; replace HM := HM.join HM'; clear HM'; simp only [List.cons_append, List.nil_append] at HM))
          | (go_at_call 125; go_must (((with_reducible refine (rdigest_c _ _ _ (rd_text HM m0) (by rw [textNode_len]; decide)).mono ?_)); rintro e W ⟨rfl, HM'⟩; replace HM := HM.keep HM'.below; clear HM')))
        refine ret2 rfl (by (exact res_row HM rfl m4 Try.underlying23 rfl (by rw [kc_size]; exact sz23))) (res_tmp rfl) rfl ?_
        rw [ht] at hT1
        have H := (HM.sub (.cons _ (.cons_cons _ (.cons _ (.cons _ (.cons _ (.cons _ (.refl _)))))))).perm (List.Perm.swap _ _ _)
        rw [valsT_snoc _ _ (textNode (climbL leaf (splitN n) i (p.take (p.length - 1))) (lastK p)), show us1.length + [q].length = (us1 ++ [(q, (textNode (climbL leaf (splitN n) i (p.take (p.length - 1))) (lastK p)))]).length by simp] at H
        exact ⟨v77, rfl, _, _, hT1.app (TxIs.one q _), (Tx.inr [rowT _] hX1).app (Tx.one m0), H⟩
      · have hb2 : ¬ (i : Int) < ((splitN n : Nat) : Int) := by omega
        have hpl2 : (p.take ((p.length : Int) - 1).toNat).length = stepsN (n - splitN n) (i - splitN n) := by
          rw [List.length_take, ht, hpl, stepsN_hi n i (by omega) hlo]; omega
        clear hpl
        have hw1 : IntKind.i64.wrap ((n : Int) - ((splitN n : Nat) : Int)) = ((n - splitN n : Nat) : Int) := by rw [IntKind.wrap_i64]; omega
        have hw2 : IntKind.i64.wrap ((i : Int) - ((splitN n : Nat) : Int)) = ((i - splitN n : Nat) : Int) := by rw [IntKind.wrap_i64]; omega
        rw [climbL_hi leaf n i p (by omega) hlo, climbT_hi leaf n i p (by omega) hlo]
        have hz2 := climbT_len (n - splitN n) leaf (i - splitN n) (p.take ((p.length : Int) - 1).toNat)
        go_enter Try.func80, Try.ntmps80
        go_wp2_with (first
          | ((with_reducible refine s_ 4 ?_); go_must (refine wl_box (dst := some 4) (cs := kc leaf) _ _ _ rfl rfl HM ?_; clear HM; intro b4 W HM))
          | ((with_reducible refine s_ 8 ?_); go_must (refine wl_alloc (dst := some 8) (cs := kc zeroKey) 23 _ Try.zeroValue23 kc_zero HM ?_; clear HM; intro b8 W HM))
          | (go_at_call 127; go_must (((with_reducible refine (rsplit_c _ (by omega) (by omega) _).mono ?_)); rintro e W ⟨rfl, HM'⟩; replace HM := HM.keep HM'.below; clear HM')))
        replace HM := HM.drew
        refine wp_region_mixN (fun W => Held w W []) (fun W => Held w W []) (.cons (2, 0) (.cons (2, 1) (.cons (2, 2) (.cons (2, 3) (.cons (2, 4) (.cons (2, 5) (.cons (2, 6) (.cons (2, 7) (.cons (2, 8) (.cons (2, 9) (.cons (2, 10) (.cons (0, 11) (.cons (2, 12) (.cons (0, 13) .nil)))))))))))))) [] (by kernel_rfl) (by kernel_rfl) (by kernel_rfl) (fun W h => Held.weak h (by simp)) (HM.held (by simp)) ?_
        revert HM; generalize World.drew _ = W; intro HM
        have HS1 : Held w W [] := HM.held (by simp)
        have HS2 : Held w W [] := HM.held (by simp)
        refine wm_q2 (i := 0) (v := ?v5_14) (some 30) rfl rfl rfl HS2 (fun W HS => ?y5_14) ?_
        case y5_14 => (go_simp; try with_reducible rfl)
        simp only [Act.put, List.getElem_toArray, List.getElem_cons_succ, List.getElem_cons_zero, List.setIfInBounds_toArray, List.set_cons_succ, List.set_cons_zero]
        refine wm_q2 (i := 1) (v := ?v5_15) (some 31) rfl rfl rfl HS2 (fun W HS => ?y5_15) ?_
        case y5_15 => (go_simp; try with_reducible rfl)
        simp only [Act.put, List.getElem_toArray, List.getElem_cons_succ, List.getElem_cons_zero, List.setIfInBounds_toArray, List.set_cons_succ, List.set_cons_zero]
        refine wm_q2 (i := 2) (some 32) rfl rfl rfl HS2 (fun W HS => (by ((refine ry_len _ _ _ _ 23 Try.underlying40 (hR.held HS) ?_; rfl)))) ?_
        simp only [Act.put, List.getElem_toArray, List.getElem_cons_succ, List.getElem_cons_zero, List.setIfInBounds_toArray, List.set_cons_succ, List.set_cons_zero]
        refine wm_q2 (i := 3) (v := ?v5_17) (some 33) rfl rfl rfl HS2 (fun W HS => ?y5_17) ?_
        case y5_17 => (go_simp; try with_reducible rfl)
        simp only [Act.put, List.getElem_toArray, List.getElem_cons_succ, List.getElem_cons_zero, List.setIfInBounds_toArray, List.set_cons_succ, List.set_cons_zero]
        (refine wm_q2x (i := 4) (some 34) rfl rfl rfl HS2 (ry_slice_hi _ 23 _ _ _ _ _ _ encK_len Try.underlying40 sz23 (hR.mem HM) rfl rfl (by omega) (by omega)) ?_); intro v34 hv34
        simp only [Act.put, List.getElem_toArray, List.getElem_cons_succ, List.getElem_cons_zero, List.setIfInBounds_toArray, List.set_cons_succ, List.set_cons_zero]
        refine wm_q2 (i := 5) (v := ?v5_18) (some 35) rfl rfl rfl HS2 (fun W HS => ?y5_18) ?_
        case y5_18 => (go_simp; try with_reducible rfl)
        simp only [Act.put, List.getElem_toArray, List.getElem_cons_succ, List.getElem_cons_zero, List.setIfInBounds_toArray, List.set_cons_succ, List.set_cons_zero]
        refine wm_q2 (i := 6) (v := ?v5_19) (some 36) rfl rfl rfl HS2 (fun W HS => ?y5_19) ?_
        case y5_19 => (go_simp; try with_reducible rfl)
        simp only [Act.put, List.getElem_toArray, List.getElem_cons_succ, List.getElem_cons_zero, List.setIfInBounds_toArray, List.set_cons_succ, List.set_cons_zero]
        refine wm_q2 (i := 7) (some 37) rfl rfl rfl HS2 (fun W HS => (by ((refine ry_len _ _ _ _ 23 Try.underlying40 (hR.held HS) ?_; rfl)))) ?_
        simp only [Act.put, List.getElem_toArray, List.getElem_cons_succ, List.getElem_cons_zero, List.setIfInBounds_toArray, List.set_cons_succ, List.set_cons_zero]
        refine wm_q2 (i := 8) (v := ?v5_21) (some 38) rfl rfl rfl HS2 (fun W HS => ?y5_21) ?_
        case y5_21 => (go_simp; try with_reducible rfl)
        simp only [Act.put, List.getElem_toArray, List.getElem_cons_succ, List.getElem_cons_zero, List.setIfInBounds_toArray, List.set_cons_succ, List.set_cons_zero]
        (refine wm_q2x (i := 9) (some 39) rfl rfl rfl HS2 (ry_index _ 23 _ _ _ _ _ _ _ (fun W => Held w W []) W encK_len Try.underlying40 sz23 HS2 (fun W HS => hR.held HS) rfl rfl (by omega) (by first | assumption | simp [*])) ?_); intro p39 hp39
        simp only [Act.put, List.getElem_toArray, List.getElem_cons_succ, List.getElem_cons_zero, List.setIfInBounds_toArray, List.set_cons_succ, List.set_cons_zero]
        refine wm_q2 (i := 10) (some 40) rfl rfl rfl HS2 (fun W HS => (by refine ry_load_key _ _ _ _ ?_ (hp39 W HS) Try.underlying23 sz23; rfl)) ?_
        simp only [Act.put, List.getElem_toArray, List.getElem_cons_succ, List.getElem_cons_zero, List.setIfInBounds_toArray, List.set_cons_succ, List.set_cons_zero]
        refine wm_e0 (i := 11) rfl ?_
        go_wp2_with (first
          | ((with_reducible refine s_ 13 ?_); go_must (refine wl_alloc (dst := some 13) (cs := kc zeroKey) 23 _ Try.zeroValue23 kc_zero HM ?_; clear HM; intro b13 W HM)))
        refine ⟨HM.held (by simp), ?_⟩
        clear HS1 HS2
        have HS1 : Held w W [] := HM.held (by simp)
        have HS2 : Held w W [] := HM.held (by simp)
        refine wm_q2 (i := 12) (v := ?v5_23) (some 12) rfl rfl rfl HS2 (fun W HS => ?y5_23) ?_
        case y5_23 => (go_simp; try with_reducible rfl)
        simp only [Act.put, List.getElem_toArray, List.getElem_cons_succ, List.getElem_cons_zero, List.setIfInBounds_toArray, List.set_cons_succ, List.set_cons_zero]
        refine wm_e0 (i := 13) rfl ?_
        go_wp2_with (first
          | ((with_reducible refine st_ 23 ?_); go_must ((refine wl_store_blk _ _ _ _ _ _ _ rfl rfl HM .here (by rw [kc_size]; exact sz23) (by simp only [kc_size]) (kc_one _) ?_); clear HM; intro W HM)))
        refine ⟨HM.held (by simp), ?_⟩
        clear HS1 HS2
        have HS1 : Held w W [] := HM.held (by simp)
        have HS2 : Held w W [] := HM.held (by simp)
        refine wm_nilN ?_
        clear HS1 HS2
        go_wp2_with (first
          | ((with_reducible refine s_ 18 ?_); go_must (refine wl_alloc (dst := some 18) (cs := kc zeroKey) 23 _ Try.zeroValue23 kc_zero HM ?_; clear HM; intro b18 W HM))
          | ((with_reducible refine s_ 76 ?_); go_must ((refine wl_slice1V (dst := some 76) _ _ _ q Try.underlying45 Try.sizeOf24 Try.zeroValue24 (text_cells HM m0) rfl HM ?_; clear HM; intro b76 W HM)))
          | ((with_reducible refine s_ 77 ?_); go_must ((refine wl_appendM (dst := some 77) (enc := encV) _ _ _ _ _ _ _ _ _ _ _ [q] Try.underlying45 inf24 rfl (by decide) encV_len (by intro y hy; rw [List.mem_singleton.1 hy]; exact encV_one q (text_one HM m1)) HM (.there (.there (.there (.there (.there (.there .here)))))) (RdL.of_blk (HM.blk m0) _ 1 rfl (by simp [encV]) (by decide)) rfl rfl (by decide) (by have := hT1.len; simp; omega) ?_; clear HM; intro v77 W HM; try dsimp only at HM)))
          | ((with_reducible refine ld_ 23 ?_); go_must (refine wl_load_blk _ _ _ _ _ _ rfl HM (by repeat first | exact List.mem_cons_self .. | refine List.mem_cons_of_mem _ ?_) Try.underlying23 rfl (by rw [kc_size]; exact sz23) ?_))
          | ((with_reducible refine st_ 23 ?_); go_must ((first | refine wl_store_blk _ _ _ _ _ _ _ rfl rfl HM .here (by rw [kc_size]; exact sz23) (by simp only [kc_size]) (kc_one _) ?_ | refine wl_store_blk _ _ _ _ _ _ _ rfl rfl HM (.there (.there (.there (.there .here)))) (by rw [kc_size]; exact sz23) (by simp only [kc_size]) (kc_one _) ?_); clear HM; intro W HM))
          | (go_at_call 80; go_must (((with_reducible refine (ih (n - splitN n) (by omega) (i - splitN n) _ _ _ (hv34 _ (hR.mem HM)) (by omega) (by omega) (by omega) hpl2).mono ?_)); rintro e W ⟨u1, rfl, us1, R1, hT1, hX1, HM'⟩; replace HM := HM.join HM'; clear HM'; simp only [List.cons_append, List.nil_append] at HM; replace HM := HM.bk; simp only [List.cons_append, List.nil_append] at HM))
          | (go_at_call 128; go_must (((with_reducible refine (rnodeTextT _ _ _).mono ?_)); rintro e W ⟨q, rfl, HM'⟩; replace HM := HM.join HM'; clear HM'; simp only [List.cons_append, List.nil_append] at HM))
          | (go_at_call 125; go_must (((with_reducible refine (rdigest_c _ _ _ (rd_text HM m0) (by rw [textNode_len]; decide)).mono ?_)); rintro e W ⟨rfl, HM'⟩; replace HM := HM.keep HM'.below; clear HM')))
        refine ret2 rfl (by (exact res_row HM rfl m4 Try.underlying23 rfl (by rw [kc_size]; exact sz23))) (res_tmp rfl) rfl ?_
        rw [ht] at hT1
        have H := (HM.sub (.cons _ (.cons_cons _ (.cons _ (.cons _ (.cons _ (.cons _ (.refl _)))))))).perm (List.Perm.swap _ _ _)
        rw [valsT_snoc _ _ (textNode (lastK p) (climbL leaf (n - splitN n) (i - splitN n) (p.take (p.length - 1)))), show us1.length + [q].length = (us1 ++ [(q, (textNode (lastK p) (climbL leaf (n - splitN n) (i - splitN n) (p.take (p.length - 1)))))]).length by simp] at H
        exact ⟨v77, rfl, _, _, hT1.app (TxIs.one q _), (Tx.inr [rowT _] hX1).app (Tx.one m0), H⟩
end
end Go.Proofs.Ythdekionepfmdaa
