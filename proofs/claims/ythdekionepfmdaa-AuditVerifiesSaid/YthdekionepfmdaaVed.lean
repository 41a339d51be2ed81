/- Verify and PathTexts: the program's and the reference's. -/
import Derived.Test.YthdekionepfmdaaVec
set_option linter.unusedVariables false
set_option linter.unusedSimpArgs false
set_option maxRecDepth 8000
namespace Go.Proofs.Ythdekionepfmdaa
open Go.RowKit

/-- Kept shut: an open equation would be a rule of the walk. -/
def FitIs (m n i : Nat) : Prop := m = stepsN n i
theorem FitIs.eq {m n i : Nat} (h : FitIs m n i) : m = stepsN n i := h
theorem fitB_is {n i : Int} {m : Nat} (h : fitB n i m = true) : ∃ a b : Nat, n = a ∧ i = b ∧ 1 ≤ a ∧ a ≤ 128 ∧ b < a ∧ FitIs m a b := fitB_true h
section
attribute [local irreducible] rowT
attribute [local go_sem] keyEqI
set_option maxHeartbeats 800000 in
theorem gives_c (r leaf : Key) (n i : Nat) (v : Value) (p : List Key) (w : World) (hR : RdL encK 16 w v p) (h1 : 1 ≤ n) (hn : n ≤ 128) (hi : i < n) (hpl : p.length = stepsN n i) :
    Calls Try.prog 76 #[.agg (kc r), .agg (kc leaf), .agg #[.int .i64 (n : Int), .int .i64 (i : Int), v]] w fun e w' => e = .returned (.bool (decide (climbL leaf n i p = r))) ∧ Mem w w' [] := by
  have HM := Mem.start w
  have hv1 := rd_one hR
  go_enter Try.func76, Try.ntmps76
  go_wp2_with (first
    | ((with_reducible refine s_ 3 ?_); go_must (refine wl_box (dst := some 3) (cs := kc r) _ _ _ rfl rfl HM ?_; clear HM; intro b3 W HM))
    | ((with_reducible refine s_ 4 ?_); go_must (refine wl_box (dst := some 4) (cs := kc leaf) _ _ _ rfl rfl HM ?_; clear HM; intro b4 W HM))
    | ((with_reducible refine s_ 5 ?_); go_must (refine wl_box (dst := some 5) (cs := #[.int .i64 (n : Int), .int .i64 (i : Int), v]) _ _ _ rfl rfl HM ?_; clear HM; intro b5 W HM))
    | ((with_reducible refine s_ 7 ?_); go_must (refine wl_alloc (dst := some 7) (cs := kc zeroKey) 23 _ Try.zeroValue23 kc_zero HM ?_; clear HM; intro b7 W HM))
    | ((with_reducible refine ld_ 23 ?_); go_must (refine wl_load_blk _ _ _ _ _ _ rfl HM (by repeat first | exact List.mem_cons_self .. | refine List.mem_cons_of_mem _ ?_) Try.underlying23 rfl (by rw [kc_size]; exact sz23) ?_))
    | ((with_reducible refine ld_ 52 ?_); go_must (refine wl_load_blk _ _ _ _ _ _ rfl HM (by repeat first | exact List.mem_cons_self .. | refine List.mem_cons_of_mem _ ?_) Try.underlying52 rfl (by exact sz52) ?_))
    | ((with_reducible refine st_ 23 ?_); go_must ((refine wl_store_blk _ _ _ _ _ _ _ rfl rfl HM .here (by rw [kc_size]; exact sz23) (by simp only [kc_size]) (kc_one _) ?_); clear HM; intro W HM))
    | (go_at_call 79; go_must (((with_reducible refine (given_c leaf n i v p _ (hR.mem HM) h1 hn hi hpl).mono ?_)); rintro e W ⟨u, rfl, us, R, hT, hX, HM'⟩; replace HM := HM.keep HM'.below; clear HM')))
  refine ret1 rfl (res_tmp rfl) rfl ?_
  exact ⟨rfl, HM.base⟩
set_option maxHeartbeats 800000 in
theorem rGives_c (leaf : Key) (n i : Nat) (v : Value) (p : List Key) (w : World) (hR : RdL encK 16 w v p) (h1 : 1 ≤ n) (hn : n ≤ 128) (hi : i < n) (hpl : p.length = stepsN n i) :
    Calls Try.prog 78 #[.agg (kc leaf), .agg #[.int .i64 (n : Int), .int .i64 (i : Int), v]] w fun e w' => e = .returned (.agg (kc (climbL leaf n i p))) ∧ Mem w w' [] := by
  have HM := Mem.start w
  go_enter Try.func78, Try.ntmps78
  go_wp2_with (first
    | ((with_reducible refine s_ 2 ?_); go_must (refine wl_box (dst := some 2) (cs := kc leaf) _ _ _ rfl rfl HM ?_; clear HM; intro b2 W HM))
    | ((with_reducible refine s_ 3 ?_); go_must (refine wl_box (dst := some 3) (cs := #[.int .i64 (n : Int), .int .i64 (i : Int), v]) _ _ _ rfl rfl HM ?_; clear HM; intro b3 W HM))
    | ((with_reducible refine s_ 4 ?_); go_must (refine wl_alloc (dst := some 4) (cs := kc zeroKey) 23 _ Try.zeroValue23 kc_zero HM ?_; clear HM; intro b4 W HM))
    | ((with_reducible refine s_ 5 ?_); go_must (refine wl_alloc (dst := some 5) (cs := kc zeroKey) 23 _ Try.zeroValue23 kc_zero HM ?_; clear HM; intro b5 W HM))
    | ((with_reducible refine ld_ 23 ?_); go_must (refine wl_load_blk _ _ _ _ _ _ rfl HM (by repeat first | exact List.mem_cons_self .. | refine List.mem_cons_of_mem _ ?_) Try.underlying23 rfl (by rw [kc_size]; exact sz23) ?_))
    | ((with_reducible refine ld_ 3 ?_); go_must (refine wl_load_cell _ _ _ _ _ _ _ _ rfl HM (by repeat first | exact List.mem_cons_self .. | refine List.mem_cons_of_mem _ ?_) (by rfl) Try.underlying3 rfl ?_))
    | ((with_reducible refine ld_ 40 ?_); go_must (refine wl_load_cell _ _ _ _ _ _ _ _ rfl HM (by repeat first | exact List.mem_cons_self .. | refine List.mem_cons_of_mem _ ?_) (by rfl) Try.underlying40 rfl ?_))
    | ((with_reducible refine st_ 23 ?_); go_must ((first | refine wl_store_blk _ _ _ _ _ _ _ rfl rfl HM .here (by rw [kc_size]; exact sz23) (by simp only [kc_size]) (kc_one _) ?_ | refine wl_store_blk _ _ _ _ _ _ _ rfl rfl HM (.there .here) (by rw [kc_size]; exact sz23) (by simp only [kc_size]) (kc_one _) ?_); clear HM; intro W HM))
    | (go_at_call 80; go_must (((with_reducible refine (rgiven_c leaf n i v p _ (hR.mem HM) h1 hn hi hpl).mono ?_)); rintro e W ⟨u, rfl, us, R, hT, hX, HM'⟩; replace HM := HM.keep HM'.below; clear HM')))
  refine ret1 rfl (by (exact res_row HM rfl m1 Try.underlying23 rfl (by rw [kc_size]; exact sz23))) rfl ?_
  exact ⟨rfl, HM.base⟩

set_option maxHeartbeats 800000 in
theorem Verify_c (root leaf : Key) (n i : Int) (v : Value) (p : List Key) (w : World) (hR : RdL encK 16 w v p) :
    Calls Try.prog 26 #[.agg (kc root), .agg (kc leaf), .agg #[.int .i64 n, .int .i64 i, v]] w fun e w' => e = .returned (.tuple #[.bool (vfB root leaf n i p), .int .i64 (vfE n i p)]) ∧ Mem w w' [] := by
  have HM := Mem.start w
  have hv1 := rd_one hR
  by_cases h : fitB n i p.length = true
  · obtain ⟨a, b, rfl, rfl, g1, g2, g3, g4⟩ := fitB_is h
    obtain ⟨q1, q2, q3⟩ := vf_ok root leaf a b p h
    rw [q1, q2]
    clear q1 q2 q3
    go_enter Try.func26, Try.ntmps26
    go_wp2_with (first
      | ((with_reducible refine s_ 3 ?_); go_must (refine wl_box (dst := some 3) (cs := kc root) _ _ _ rfl rfl HM ?_; clear HM; intro b3 W HM))
      | ((with_reducible refine s_ 4 ?_); go_must (refine wl_box (dst := some 4) (cs := kc leaf) _ _ _ rfl rfl HM ?_; clear HM; intro b4 W HM))
      | ((with_reducible refine s_ 5 ?_); go_must (refine wl_box (dst := some 5) (cs := #[.int .i64 (a : Int), .int .i64 (b : Int), v]) _ _ _ rfl rfl HM ?_; clear HM; intro b5 W HM))
      | ((with_reducible refine ld_ 52 ?_); go_must (refine wl_load_blk _ _ _ _ _ _ rfl HM (by repeat first | exact List.mem_cons_self .. | refine List.mem_cons_of_mem _ ?_) Try.underlying52 rfl (by exact sz52) ?_))
      | ((with_reducible refine ld_ 23 ?_); go_must (refine wl_load_blk _ _ _ _ _ _ rfl HM (by repeat first | exact List.mem_cons_self .. | refine List.mem_cons_of_mem _ ?_) Try.underlying23 rfl (by rw [kc_size]; exact sz23) ?_))
      | (go_at_call 75; go_must (((with_reducible refine (fits_c a b v p _ (hR.mem HM)).mono ?_)); rintro e W ⟨rfl, HM'⟩; replace HM := HM.keep HM'.below; clear HM'))
      | (go_at_call 76; go_must (((with_reducible refine (gives_c root leaf a b v p _ (hR.mem HM) g1 g2 g3 g4.eq).mono ?_)); rintro e W ⟨rfl, HM'⟩; replace HM := HM.keep HM'.below; clear HM')))
    --
    go_wp2_with (fail)
    refine ret2 rfl (res_tmp rfl) (res_tmp rfl) rfl ?_
    exact ⟨rfl, HM.base⟩
  · have h' : fitB n i p.length = false := by simpa using h
    obtain ⟨q1, q2, q3⟩ := vf_no root leaf n i p h'
    rw [q1, q2]
    clear q1 q2 q3 h
    go_enter Try.func26, Try.ntmps26
    go_wp2_with (first
      | ((with_reducible refine s_ 3 ?_); go_must (refine wl_box (dst := some 3) (cs := kc root) _ _ _ rfl rfl HM ?_; clear HM; intro b3 W HM))
      | ((with_reducible refine s_ 4 ?_); go_must (refine wl_box (dst := some 4) (cs := kc leaf) _ _ _ rfl rfl HM ?_; clear HM; intro b4 W HM))
      | ((with_reducible refine s_ 5 ?_); go_must (refine wl_box (dst := some 5) (cs := #[.int .i64 n, .int .i64 i, v]) _ _ _ rfl rfl HM ?_; clear HM; intro b5 W HM))
      | ((with_reducible refine ld_ 52 ?_); go_must (refine wl_load_blk _ _ _ _ _ _ rfl HM (by repeat first | exact List.mem_cons_self .. | refine List.mem_cons_of_mem _ ?_) Try.underlying52 rfl (by exact sz52) ?_))
      | (go_at_call 75; go_must (((with_reducible refine (fits_c n i v p _ (hR.mem HM)).mono ?_)); rintro e W ⟨rfl, HM'⟩; replace HM := HM.keep HM'.below; clear HM')))
    refine ret2 rfl (res_tmp rfl) (res_tmp rfl) rfl ?_
    exact ⟨rfl, HM.base⟩
set_option maxHeartbeats 800000 in
theorem rVerify_c (root leaf : Key) (n i : Int) (v : Value) (p : List Key) (w : World) (hR : RdL encK 16 w v p) :
    Calls Try.prog 27 #[.agg (kc root), .agg (kc leaf), .agg #[.int .i64 n, .int .i64 i, v]] w fun e w' => e = .returned (.tuple #[.bool (vfB root leaf n i p), .int .i64 (vfE n i p)]) ∧ Mem w w' [] := by
  have HM := Mem.start w
  have hv1 := rd_one hR
  by_cases h : fitB n i p.length = true
  · obtain ⟨a, b, rfl, rfl, g1, g2, g3, g4⟩ := fitB_is h
    obtain ⟨q1, q2, q3⟩ := vf_ok root leaf a b p h
    rw [q1, q2]
    clear q1 q2 q3
    go_enter Try.func27, Try.ntmps27
    go_wp2_with (first
      | ((with_reducible refine s_ 3 ?_); go_must (refine wl_box (dst := some 3) (cs := kc root) _ _ _ rfl rfl HM ?_; clear HM; intro b3 W HM))
      | ((with_reducible refine s_ 4 ?_); go_must (refine wl_box (dst := some 4) (cs := kc leaf) _ _ _ rfl rfl HM ?_; clear HM; intro b4 W HM))
      | ((with_reducible refine s_ 5 ?_); go_must (refine wl_box (dst := some 5) (cs := #[.int .i64 (a : Int), .int .i64 (b : Int), v]) _ _ _ rfl rfl HM ?_; clear HM; intro b5 W HM))
      | ((with_reducible refine ld_ 52 ?_); go_must (refine wl_load_blk _ _ _ _ _ _ rfl HM (by repeat first | exact List.mem_cons_self .. | refine List.mem_cons_of_mem _ ?_) Try.underlying52 rfl (by exact sz52) ?_))
      | (go_at_call 77; go_must (((with_reducible refine (rFits_c a b v p _ (hR.mem HM)).mono ?_)); rintro e W ⟨rfl, HM'⟩; replace HM := HM.keep HM'.below; clear HM')))
    replace HM := HM.drew
    refine wp_region_mixN (fun W => Held w W [.blk b3 (kc root) 23, .blk b4 (kc leaf) 23, .blk b5 #[.int .i64 (a : Int), .int .i64 (b : Int), v] 52]) (fun W => Held w W [.blk b3 (kc root) 23, .blk b4 (kc leaf) 23, .blk b5 #[.int .i64 (a : Int), .int .i64 (b : Int), v] 52]) (.cons (2, 0) (.cons (2, 1) (.cons (2, 3) (.cons (0, 2) (.cons (2, 4) (.cons (2, 5) (.cons (2, 6) .nil))))))) [] (by kernel_rfl) (by kernel_rfl) (by kernel_rfl) (fun W h => Held.weak h (by simp)) (HM.held (by simp)) ?_
    revert HM; generalize World.drew _ = W; intro HM
    have HS1 : Held w W [.blk b3 (kc root) 23, .blk b4 (kc leaf) 23, .blk b5 #[.int .i64 (a : Int), .int .i64 (b : Int), v] 52] := HM.held (by simp)
    have HS2 : Held w W [.blk b3 (kc root) 23, .blk b4 (kc leaf) 23, .blk b5 #[.int .i64 (a : Int), .int .i64 (b : Int), v] 52] := HM.held (by simp)
    refine wm_q2 (i := 0) (some 11) rfl rfl rfl HS2 (fun W HS => (by ((refine ry_load_blk _ _ _ _ _ _ HS ?_ m1 Try.underlying23 rfl (by rw [kc_size]; exact sz23); rfl)))) ?_
    simp only [Act.put, List.getElem_toArray, List.getElem_cons_succ, List.getElem_cons_zero, List.setIfInBounds_toArray, List.set_cons_succ, List.set_cons_zero]
    refine wm_q2 (i := 1) (some 12) rfl rfl rfl HS2 (fun W HS => (by ((refine ry_load_blk _ _ _ _ _ _ HS ?_ m2 Try.underlying52 rfl sz52; rfl)))) ?_
    simp only [Act.put, List.getElem_toArray, List.getElem_cons_succ, List.getElem_cons_zero, List.setIfInBounds_toArray, List.set_cons_succ, List.set_cons_zero]
    refine wm_q2 (i := 3) (some 14) rfl rfl rfl HS2 (fun W HS => (by ((refine ry_load_blk _ _ _ _ _ _ HS ?_ m0 Try.underlying23 rfl (by rw [kc_size]; exact sz23); rfl)))) ?_
    simp only [Act.put, List.getElem_toArray, List.getElem_cons_succ, List.getElem_cons_zero, List.setIfInBounds_toArray, List.set_cons_succ, List.set_cons_zero]
    refine wm_e0 (i := 2) rfl ?_
    go_wp2_with (first
      | (go_at_call 78; go_must (((with_reducible refine (rGives_c leaf a b v p _ (hR.mem HM) g1 g2 g3 g4.eq).mono ?_)); rintro e W ⟨rfl, HM'⟩; replace HM := HM.keep HM'.below; clear HM')))
    refine ⟨HM.held (by simp), ?_⟩
    clear HS1 HS2
    have HS1 : Held w W [.blk b3 (kc root) 23, .blk b4 (kc leaf) 23, .blk b5 #[.int .i64 (a : Int), .int .i64 (b : Int), v] 52] := HM.held (by simp)
    have HS2 : Held w W [.blk b3 (kc root) 23, .blk b4 (kc leaf) 23, .blk b5 #[.int .i64 (a : Int), .int .i64 (b : Int), v] 52] := HM.held (by simp)
    refine wm_q2 (i := 4) (v := ?v3_4) (some 15) rfl rfl rfl HS2 (fun W HS => ?y3_4) ?_
    case y3_4 => (go_simp; try with_reducible rfl)
    simp only [Act.put, List.getElem_toArray, List.getElem_cons_succ, List.getElem_cons_zero, List.setIfInBounds_toArray, List.set_cons_succ, List.set_cons_zero]
    refine wm_q2 (i := 5) (v := ?v3_5) (some 6) rfl rfl rfl HS2 (fun W HS => ?y3_5) ?_
    case y3_5 => (go_simp; try with_reducible rfl)
    simp only [Act.put, List.getElem_toArray, List.getElem_cons_succ, List.getElem_cons_zero, List.setIfInBounds_toArray, List.set_cons_succ, List.set_cons_zero]
    refine wm_q2 (i := 6) (v := ?v3_6) (some 7) rfl rfl rfl HS2 (fun W HS => ?y3_6) ?_
    case y3_6 => (go_simp; try with_reducible rfl)
    simp only [Act.put, List.getElem_toArray, List.getElem_cons_succ, List.getElem_cons_zero, List.setIfInBounds_toArray, List.set_cons_succ, List.set_cons_zero]
    refine wm_nilN ?_
    clear HS1 HS2
    go_wp2_with (fail)
    refine ret2 rfl (res_tmp rfl) (res_tmp rfl) rfl ?_
    exact ⟨rfl, HM.base⟩
  · have h' : fitB n i p.length = false := by simpa using h
    obtain ⟨q1, q2, q3⟩ := vf_no root leaf n i p h'
    rw [q1, q2]
    clear q1 q2 q3 h
    go_enter Try.func27, Try.ntmps27
    go_wp2_with (first
      | ((with_reducible refine s_ 3 ?_); go_must (refine wl_box (dst := some 3) (cs := kc root) _ _ _ rfl rfl HM ?_; clear HM; intro b3 W HM))
      | ((with_reducible refine s_ 4 ?_); go_must (refine wl_box (dst := some 4) (cs := kc leaf) _ _ _ rfl rfl HM ?_; clear HM; intro b4 W HM))
      | ((with_reducible refine s_ 5 ?_); go_must (refine wl_box (dst := some 5) (cs := #[.int .i64 n, .int .i64 i, v]) _ _ _ rfl rfl HM ?_; clear HM; intro b5 W HM))
      | ((with_reducible refine ld_ 52 ?_); go_must (refine wl_load_blk _ _ _ _ _ _ rfl HM (by repeat first | exact List.mem_cons_self .. | refine List.mem_cons_of_mem _ ?_) Try.underlying52 rfl (by exact sz52) ?_))
      | (go_at_call 77; go_must (((with_reducible refine (rFits_c n i v p _ (hR.mem HM)).mono ?_)); rintro e W ⟨rfl, HM'⟩; replace HM := HM.keep HM'.below; clear HM')))
    refine ret2 rfl (res_tmp rfl) (res_tmp rfl) rfl ?_
    exact ⟨rfl, HM.base⟩
set_option maxHeartbeats 800000 in
theorem PathTexts_c (leaf : Key) (n i : Int) (v : Value) (p : List Key) (w : World) (hR : RdL encK 16 w v p) :
    Calls Try.prog 28 #[.agg (kc leaf), .agg #[.int .i64 n, .int .i64 i, v]] w fun e w' => ∃ u, e = .returned (.tuple #[u, .int .i64 (vfE n i p)]) ∧ Given w w' u (vfT leaf n i p) := by
  have HM := Mem.start w
  have hv1 := rd_one hR
  by_cases h : fitB n i p.length = true
  · obtain ⟨a, b, rfl, rfl, g1, g2, g3, g4⟩ := fitB_is h
    obtain ⟨q1, q2, q3⟩ := vf_ok leaf leaf a b p h
    rw [q2, q3]
    clear q1 q2 q3
    go_enter Try.func28, Try.ntmps28
    go_wp2_with (first
      | ((with_reducible refine s_ 2 ?_); go_must (refine wl_box (dst := some 2) (cs := kc leaf) _ _ _ rfl rfl HM ?_; clear HM; intro b2 W HM))
      | ((with_reducible refine s_ 3 ?_); go_must (refine wl_box (dst := some 3) (cs := #[.int .i64 (a : Int), .int .i64 (b : Int), v]) _ _ _ rfl rfl HM ?_; clear HM; intro b3 W HM))
      | ((with_reducible refine s_ 6 ?_); go_must (refine wl_alloc (dst := some 6) (cs := kc zeroKey) 23 _ Try.zeroValue23 kc_zero HM ?_; clear HM; intro b6 W HM))
      | ((with_reducible refine ld_ 52 ?_); go_must (refine wl_load_blk _ _ _ _ _ _ rfl HM (by repeat first | exact List.mem_cons_self .. | refine List.mem_cons_of_mem _ ?_) Try.underlying52 rfl (by exact sz52) ?_))
      | ((with_reducible refine ld_ 23 ?_); go_must (refine wl_load_blk _ _ _ _ _ _ rfl HM (by repeat first | exact List.mem_cons_self .. | refine List.mem_cons_of_mem _ ?_) Try.underlying23 rfl (by rw [kc_size]; exact sz23) ?_))
      | ((with_reducible refine st_ 23 ?_); go_must ((refine wl_store_blk _ _ _ _ _ _ _ rfl rfl HM .here (by rw [kc_size]; exact sz23) (by simp only [kc_size]) (kc_one _) ?_); clear HM; intro W HM))
      | (go_at_call 75; go_must (((with_reducible refine (fits_c a b v p _ (hR.mem HM)).mono ?_)); rintro e W ⟨rfl, HM'⟩; replace HM := HM.keep HM'.below; clear HM'))
      | (go_at_call 79; go_must (((with_reducible refine (given_c leaf a b v p _ (hR.mem HM) g1 g2 g3 g4.eq).mono ?_)); rintro e W ⟨u, rfl, us, R, hT, hX, HM'⟩; replace HM := HM.join HM'; clear HM'; simp only [List.cons_append, List.nil_append] at HM)))
    refine ret2 rfl (res_tmp rfl) (res_tmp rfl) rfl ?_
    exact ⟨u, rfl, us, R, hT, hX, HM.sub (.cons _ (.cons_cons _ (List.sublist_append_left _ _)))⟩
  · have h' : fitB n i p.length = false := by simpa using h
    obtain ⟨q1, q2, q3⟩ := vf_no leaf leaf n i p h'
    rw [q2, q3]
    clear q1 q2 q3 h
    go_enter Try.func28, Try.ntmps28
    go_wp2_with (first
      | ((with_reducible refine s_ 2 ?_); go_must (refine wl_box (dst := some 2) (cs := kc leaf) _ _ _ rfl rfl HM ?_; clear HM; intro b2 W HM))
      | ((with_reducible refine s_ 3 ?_); go_must (refine wl_box (dst := some 3) (cs := #[.int .i64 n, .int .i64 i, v]) _ _ _ rfl rfl HM ?_; clear HM; intro b3 W HM))
      | ((with_reducible refine ld_ 52 ?_); go_must (refine wl_load_blk _ _ _ _ _ _ rfl HM (by repeat first | exact List.mem_cons_self .. | refine List.mem_cons_of_mem _ ?_) Try.underlying52 rfl (by exact sz52) ?_))
      | (go_at_call 75; go_must (((with_reducible refine (fits_c n i v p _ (hR.mem HM)).mono ?_)); rintro e W ⟨rfl, HM'⟩; replace HM := HM.keep HM'.below; clear HM')))
    refine ret2 rfl (res_tmp rfl) (res_tmp rfl) rfl ?_
    exact ⟨_, rfl, [], [], rfl, Tx.nil _, HM.base.nilrow _ _⟩
set_option maxHeartbeats 800000 in
theorem rPathTexts_c (leaf : Key) (n i : Int) (v : Value) (p : List Key) (w : World) (hR : RdL encK 16 w v p) :
    Calls Try.prog 29 #[.agg (kc leaf), .agg #[.int .i64 n, .int .i64 i, v]] w fun e w' => ∃ u, e = .returned (.tuple #[u, .int .i64 (vfE n i p)]) ∧ Given w w' u (vfT leaf n i p) := by
  have HM := Mem.start w
  have hv1 := rd_one hR
  by_cases h : fitB n i p.length = true
  · obtain ⟨a, b, rfl, rfl, g1, g2, g3, g4⟩ := fitB_is h
    obtain ⟨q1, q2, q3⟩ := vf_ok leaf leaf a b p h
    rw [q2, q3]
    clear q1 q2 q3
    go_enter Try.func29, Try.ntmps29
    go_wp2_with (first
      | ((with_reducible refine s_ 2 ?_); go_must (refine wl_box (dst := some 2) (cs := kc leaf) _ _ _ rfl rfl HM ?_; clear HM; intro b2 W HM))
      | ((with_reducible refine s_ 3 ?_); go_must (refine wl_box (dst := some 3) (cs := #[.int .i64 (a : Int), .int .i64 (b : Int), v]) _ _ _ rfl rfl HM ?_; clear HM; intro b3 W HM))
      | ((with_reducible refine s_ 6 ?_); go_must (refine wl_alloc (dst := some 6) (cs := kc zeroKey) 23 _ Try.zeroValue23 kc_zero HM ?_; clear HM; intro b6 W HM))
      | ((with_reducible refine ld_ 52 ?_); go_must (refine wl_load_blk _ _ _ _ _ _ rfl HM (by repeat first | exact List.mem_cons_self .. | refine List.mem_cons_of_mem _ ?_) Try.underlying52 rfl (by exact sz52) ?_))
      | ((with_reducible refine ld_ 23 ?_); go_must (refine wl_load_blk _ _ _ _ _ _ rfl HM (by repeat first | exact List.mem_cons_self .. | refine List.mem_cons_of_mem _ ?_) Try.underlying23 rfl (by rw [kc_size]; exact sz23) ?_))
      | ((with_reducible refine ld_ 3 ?_); go_must (refine wl_load_cell _ _ _ _ _ _ _ _ rfl HM (by repeat first | exact List.mem_cons_self .. | refine List.mem_cons_of_mem _ ?_) (by rfl) Try.underlying3 rfl ?_))
      | ((with_reducible refine ld_ 40 ?_); go_must (refine wl_load_cell _ _ _ _ _ _ _ _ rfl HM (by repeat first | exact List.mem_cons_self .. | refine List.mem_cons_of_mem _ ?_) (by rfl) Try.underlying40 rfl ?_))
      | ((with_reducible refine st_ 23 ?_); go_must ((refine wl_store_blk _ _ _ _ _ _ _ rfl rfl HM .here (by rw [kc_size]; exact sz23) (by simp only [kc_size]) (kc_one _) ?_); clear HM; intro W HM))
      | (go_at_call 77; go_must (((with_reducible refine (rFits_c a b v p _ (hR.mem HM)).mono ?_)); rintro e W ⟨rfl, HM'⟩; replace HM := HM.keep HM'.below; clear HM'))
      | (go_at_call 80; go_must (((with_reducible refine (rgiven_c leaf a b v p _ (hR.mem HM) g1 g2 g3 g4.eq).mono ?_)); rintro e W ⟨u, rfl, us, R, hT, hX, HM'⟩; replace HM := HM.join HM'; clear HM'; simp only [List.cons_append, List.nil_append] at HM)))
    refine ret2 rfl (res_tmp rfl) (res_tmp rfl) rfl ?_
    exact ⟨u, rfl, us, R, hT, hX, HM.sub (.cons _ (.cons_cons _ (List.sublist_append_left _ _)))⟩
  · have h' : fitB n i p.length = false := by simpa using h
    obtain ⟨q1, q2, q3⟩ := vf_no leaf leaf n i p h'
    rw [q2, q3]
    clear q1 q2 q3 h
    go_enter Try.func29, Try.ntmps29
    go_wp2_with (first
      | ((with_reducible refine s_ 2 ?_); go_must (refine wl_box (dst := some 2) (cs := kc leaf) _ _ _ rfl rfl HM ?_; clear HM; intro b2 W HM))
      | ((with_reducible refine s_ 3 ?_); go_must (refine wl_box (dst := some 3) (cs := #[.int .i64 n, .int .i64 i, v]) _ _ _ rfl rfl HM ?_; clear HM; intro b3 W HM))
      | ((with_reducible refine ld_ 52 ?_); go_must (refine wl_load_blk _ _ _ _ _ _ rfl HM (by repeat first | exact List.mem_cons_self .. | refine List.mem_cons_of_mem _ ?_) Try.underlying52 rfl (by exact sz52) ?_))
      | (go_at_call 77; go_must (((with_reducible refine (rFits_c n i v p _ (hR.mem HM)).mono ?_)); rintro e W ⟨rfl, HM'⟩; replace HM := HM.keep HM'.below; clear HM')))
    refine ret2 rfl (res_tmp rfl) (res_tmp rfl) rfl ?_
    exact ⟨_, rfl, [], [], rfl, Tx.nil _, HM.base.nilrow _ _⟩
end
end Go.Proofs.Ythdekionepfmdaa
