/- Which proofs fit: the program's fits, the reference's steps and Fits. -/
import Derived.Test.YthdekionepfmdaaTsc
set_option linter.unusedVariables false
set_option linter.unusedSimpArgs false
set_option maxRecDepth 8000
namespace Go.Proofs.Ythdekionepfmdaa
open Go.RowKit

/-- How many entries the path of an index has in a list of n leaves. -/
def stepsN (n i : Nat) : Nat :=
  if h : n ≤ 1 then 0
  else if i < splitN n then 1 + stepsN (splitN n) i
  else 1 + stepsN (n - splitN n) (i - splitN n)
termination_by n
decreasing_by
  · have := splitN_lt n (by omega); omega
  · have := splitN_lt n (by omega); omega
theorem stepsN_one (n i : Nat) (h : n ≤ 1) : stepsN n i = 0 := by rw [stepsN, dif_pos h]
theorem stepsN_lo (n i : Nat) (h : 2 ≤ n) (hi : i < splitN n) : stepsN n i = 1 + stepsN (splitN n) i := by rw [stepsN, dif_neg (by omega), if_pos hi]
theorem stepsN_hi (n i : Nat) (h : 2 ≤ n) (hi : ¬ i < splitN n) : stepsN n i = 1 + stepsN (n - splitN n) (i - splitN n) := by rw [stepsN, dif_neg (by omega), if_neg hi]
theorem stepsN_le : ∀ (n i : Nat), stepsN n i ≤ n := by
  intro n
  induction n using Nat.strongRecOn with
  | ind n ih =>
    intro i
    by_cases h : n ≤ 1
    · rw [stepsN_one n i h]; omega
    · have hs := splitN_lt n (by omega)
      by_cases hi : i < splitN n
      · rw [stepsN_lo n i (by omega) hi]; have := ih (splitN n) (by omega) i; omega
      · rw [stepsN_hi n i (by omega) hi]; have := ih (n - splitN n) (by omega) (i - splitN n); omega
/-- Whether a proof fits. -/
def fitB (n i : Int) (m : Nat) : Bool := decide (1 ≤ n ∧ n ≤ 128 ∧ 0 ≤ i ∧ i < n ∧ m = stepsN n.toNat i.toNat)
theorem fitB_no (n i : Int) (m : Nat) (h : ¬ (1 ≤ n ∧ n ≤ 128 ∧ 0 ≤ i ∧ i < n)) : fitB n i m = false := by
  rw [fitB, decide_eq_false_iff_not]; rintro ⟨h1, h2, h3, h4, _⟩; exact h ⟨h1, h2, h3, h4⟩
theorem fitB_ok (n i m : Nat) (h1 : 1 ≤ n) (h2 : n ≤ 128) (h3 : i < n) : fitB n i m = decide (m = stepsN n i) := by
  rw [fitB]; congr 1; simp; omega
theorem fitB_true {n i : Int} {m : Nat} (h : fitB n i m = true) : ∃ a b : Nat, n = a ∧ i = b ∧ 1 ≤ a ∧ a ≤ 128 ∧ b < a ∧ m = stepsN a b := by
  obtain ⟨h1, h2, h3, h4, h5⟩ := of_decide_eq_true h
  exact ⟨n.toNat, i.toNat, by omega, by omega, by omega, by omega, by omega, h5⟩
def StInv (n i n' i' s : Nat) : Prop := stepsN n i = s + stepsN n' i'
theorem StInv.done {n i n' i' s : Nat} (h : StInv n i n' i' s) (h1 : n' ≤ 1) : stepsN n i = s := by rw [show stepsN n i = s + stepsN n' i' from h, stepsN_one n' i' h1]; omega

set_option maxHeartbeats 1600000 in
theorem fits_c (n i : Int) (v : Value) (path : List Key) (w : World) (hR : RdL encK 16 w v path) :
    Calls Try.prog 75 #[.agg #[.int .i64 n, .int .i64 i, v]] w fun e w' => e = .returned (.bool (fitB n i path.length)) ∧ Mem w w' [] := by
  have HM := Mem.start w
  by_cases h : 1 ≤ n ∧ n ≤ 128 ∧ 0 ≤ i ∧ i < n
  · obtain ⟨a1, a2, a3, a4⟩ := h
    obtain ⟨a, rfl⟩ := Int.eq_ofNat_of_zero_le (show 0 ≤ n by omega)
    obtain ⟨b, rfl⟩ := Int.eq_ofNat_of_zero_le a3
    rw [fitB_ok a b path.length (by omega) (by omega) (by omega)]
    have d1 : ¬ (a : Int) < 1 := by omega
    have b2 : ¬ (128 : Int) < (a : Int) := by omega
    have b3 : ¬ (b : Int) < 0 := by omega
    have b4 : ¬ (a : Int) ≤ (b : Int) := by omega
    go_enter Try.func75, Try.ntmps75
    go_wp2_with (first
      | ((with_reducible refine gd_ _ ?_); refine wl_guard (by rfl) ?_)
      | ((with_reducible refine s_ 1 ?_); go_must (refine wl_box (dst := some 1) (cs := #[.int .i64 a, .int .i64 b, v]) _ _ _ rfl rfl HM ?_; clear HM; intro b1 W HM))
      | ((with_reducible refine ld_ 3 ?_); go_must (refine wl_load_cell _ _ _ _ _ _ _ _ rfl HM (by repeat first | exact List.mem_cons_self .. | refine List.mem_cons_of_mem _ ?_) (by rfl) Try.underlying3 rfl ?_)))
    replace HM := HM.drew
    refine wp_region_mixN (fun W => Held w W [.blk b1 #[.int .i64 a, .int .i64 b, v] 52]) (fun W => Held w W [.blk b1 #[.int .i64 a, .int .i64 b, v] 52]) (.cons (2, 0) (.cons (2, 1) (.cons (2, 2) (.cons (2, 3) (.cons (2, 4) (.cons (2, 5) .nil)))))) [] (by kernel_rfl) (by kernel_rfl) (by kernel_rfl) (fun W h => Held.weak h (by simp)) (HM.held (by simp)) ?_
    revert HM; generalize World.drew _ = W; intro HM
    have HS1 : Held w W [.blk b1 #[.int .i64 a, .int .i64 b, v] 52] := HM.held (by simp)
    have HS2 : Held w W [.blk b1 #[.int .i64 a, .int .i64 b, v] 52] := HM.held (by simp)
    refine wm_q2 (i := 0) (v := ?v4_1) (some 27) rfl rfl rfl HS2 (fun W HS => ?y4_1) ?_
    case y4_1 => (go_simp; try with_reducible rfl)
    simp only [Act.put, List.getElem_toArray, List.getElem_cons_succ, List.getElem_cons_zero, List.setIfInBounds_toArray, List.set_cons_succ, List.set_cons_zero]
    refine wm_q2 (i := 1) (some 28) rfl rfl rfl HS2 (fun W HS => (by (exact ry_load_cell _ _ _ _ _ _ _ _ HS rfl m0 rfl Try.underlying3 rfl))) ?_
    simp only [Act.put, List.getElem_toArray, List.getElem_cons_succ, List.getElem_cons_zero, List.setIfInBounds_toArray, List.set_cons_succ, List.set_cons_zero]
    refine wm_q2 (i := 2) (v := ?v4_3) (some 29) rfl rfl rfl HS2 (fun W HS => ?y4_3) ?_
    case y4_3 => (go_simp; try with_reducible rfl)
    simp only [Act.put, List.getElem_toArray, List.getElem_cons_succ, List.getElem_cons_zero, List.setIfInBounds_toArray, List.set_cons_succ, List.set_cons_zero]
    refine wm_q2 (i := 3) (some 30) rfl rfl rfl HS2 (fun W HS => (by (exact ry_load_cell _ _ _ _ _ _ _ _ HS rfl m0 rfl Try.underlying3 rfl))) ?_
    simp only [Act.put, List.getElem_toArray, List.getElem_cons_succ, List.getElem_cons_zero, List.setIfInBounds_toArray, List.set_cons_succ, List.set_cons_zero]
    refine wm_q2 (i := 4) (v := ?v4_5) (some 4) rfl rfl rfl HS2 (fun W HS => ?y4_5) ?_
    case y4_5 => (go_simp; try with_reducible rfl)
    simp only [Act.put, List.getElem_toArray, List.getElem_cons_succ, List.getElem_cons_zero, List.setIfInBounds_toArray, List.set_cons_succ, List.set_cons_zero]
    refine wm_q2 (i := 5) (v := ?v4_6) (some 5) rfl rfl rfl HS2 (fun W HS => ?y4_6) ?_
    case y4_6 => (go_simp; try with_reducible rfl)
    simp only [Act.put, List.getElem_toArray, List.getElem_cons_succ, List.getElem_cons_zero, List.setIfInBounds_toArray, List.set_cons_succ, List.set_cons_zero]
    refine wm_nilN ?_
    clear HS1 HS2
    go_wp2_with (fail)
    go_loopw [3, 4, 5] (fun sv nv iv wr => ∃ n' i' s : Nat, i' < n' ∧ n' ≤ 128 ∧ StInv a b n' i' s ∧ sv = .int .i64 s ∧ nv = .int .i64 n' ∧ iv = .int .i64 i' ∧ Mem w wr [.blk b1 #[.int .i64 a, .int .i64 b, v] 52])
      (fun _ nv _ _ => (intOf nv).toNat)
    case atStart => exact ⟨a, b, 0, by omega, by omega, by simp [StInv], rfl, rfl, rfl, HM⟩
    case round =>
      clear HM
      obtain ⟨n', i', s, hi', hn', hP, rfl, rfl, rfl, HM⟩ := hrel
      have hs1 : s ≤ 128 := by
        have e1 : stepsN a b = s + stepsN n' i' := hP
        have e2 := stepsN_le a b
        omega
      by_cases hlt : 1 < n'
      · have hb : (1 : Int) < (n' : Int) := by omega
        have hs := splitN_lt n' (by omega)
        by_cases hlo : i' < splitN n'
        · have hb2 : (i' : Int) < ((splitN n' : Nat) : Int) := by omega
          have hP2 : StInv a b (splitN n') i' (s + 1) := by
            have e1 : stepsN a b = s + stepsN n' i' := hP
            rw [StInv, e1, stepsN_lo n' i' (by omega) hlo]; omega
          go_wp2_with (first
            | (go_at_call 72; go_must (((with_reducible refine (split_c _ (by omega) (by omega) _).mono ?_)); rintro e W ⟨rfl, HM'⟩; replace HM := HM.keep HM'.below; clear HM')))
          go_roundw
          case rel => exact ⟨_, i', s + 1, by omega, by omega, hP2, by go_num, rfl, rfl, HM⟩
          case measure => simp [intOf]; omega
        · have hb2 : ¬ (i' : Int) < ((splitN n' : Nat) : Int) := by omega
          have hP2 : StInv a b (n' - splitN n') (i' - splitN n') (s + 1) := by
            have e1 : stepsN a b = s + stepsN n' i' := hP
            rw [StInv, e1, stepsN_hi n' i' (by omega) hlo]; omega
          have hw1 : IntKind.i64.wrap ((n' : Int) - ((splitN n' : Nat) : Int)) = ((n' - splitN n' : Nat) : Int) := by rw [IntKind.wrap_i64]; omega
          have hw2 : IntKind.i64.wrap ((i' : Int) - ((splitN n' : Nat) : Int)) = ((i' - splitN n' : Nat) : Int) := by rw [IntKind.wrap_i64]; omega
          go_wp2_with (first
            | (go_at_call 72; go_must (((with_reducible refine (split_c _ (by omega) (by omega) _).mono ?_)); rintro e W ⟨rfl, HM'⟩; replace HM := HM.keep HM'.below; clear HM')))
          go_roundw
          case rel => exact ⟨_, _, s + 1, by omega, by omega, hP2, by go_num, rfl, rfl, HM⟩
          case measure => simp [intOf]; omega
      · have hb : ¬ (1 : Int) < (n' : Int) := by omega
        by_cases hl : path.length = s
        · have hb5 : (path.length : Int) = (s : Int) := by omega
          go_wp2_with (first
            | ((with_reducible refine s_ 49 ?_); go_must ((refine wl_len (dst := some 49) _ _ _ _ 23 Try.underlying40 rfl (hR.mem HM) ?_)))
            | ((with_reducible refine ld_ 40 ?_); go_must (refine wl_load_cell _ _ _ _ _ _ _ _ rfl HM (by repeat first | exact List.mem_cons_self .. | refine List.mem_cons_of_mem _ ?_) (by rfl) Try.underlying40 rfl ?_)))
          refine ret1 rfl (res_tmp rfl) rfl ?_
          exact ⟨by rw [hP.done (by omega)]; simp [hl], HM.base⟩
        · have hb5 : ¬ (path.length : Int) = (s : Int) := by omega
          go_wp2_with (first
            | ((with_reducible refine s_ 49 ?_); go_must ((refine wl_len (dst := some 49) _ _ _ _ 23 Try.underlying40 rfl (hR.mem HM) ?_)))
            | ((with_reducible refine ld_ 40 ?_); go_must (refine wl_load_cell _ _ _ _ _ _ _ _ rfl HM (by repeat first | exact List.mem_cons_self .. | refine List.mem_cons_of_mem _ ?_) (by rfl) Try.underlying40 rfl ?_)))
          refine ret1 rfl (res_tmp rfl) rfl ?_
          exact ⟨by rw [hP.done (by omega)]; simp [hl]; omega, HM.base⟩
  · rw [fitB_no n i path.length h]
    by_cases c1 : n < 1
    · clear h
      go_enter Try.func75, Try.ntmps75
      go_wp2_with (first
        | ((with_reducible refine s_ 1 ?_); go_must (refine wl_box (dst := some 1) (cs := #[.int .i64 n, .int .i64 i, v]) _ _ _ rfl rfl HM ?_; clear HM; intro b1 W HM))
        | ((with_reducible refine ld_ 3 ?_); go_must (refine wl_load_cell _ _ _ _ _ _ _ _ rfl HM (by repeat first | exact List.mem_cons_self .. | refine List.mem_cons_of_mem _ ?_) (by rfl) Try.underlying3 rfl ?_)))
      refine ret1 rfl (res_tmp rfl) rfl ?_
      exact ⟨rfl, HM.base⟩
    · by_cases c2 : 128 < n
      · clear h
        go_enter Try.func75, Try.ntmps75
        go_wp2_with (first
          | ((with_reducible refine gd_ _ ?_); refine wl_guard (by rfl) ?_)
          | ((with_reducible refine s_ 1 ?_); go_must (refine wl_box (dst := some 1) (cs := #[.int .i64 n, .int .i64 i, v]) _ _ _ rfl rfl HM ?_; clear HM; intro b1 W HM))
          | ((with_reducible refine ld_ 3 ?_); go_must (refine wl_load_cell _ _ _ _ _ _ _ _ rfl HM (by repeat first | exact List.mem_cons_self .. | refine List.mem_cons_of_mem _ ?_) (by rfl) Try.underlying3 rfl ?_)))
        refine ret1 rfl (res_tmp rfl) rfl ?_
        exact ⟨rfl, HM.base⟩
      · by_cases c3 : i < 0
        · clear h
          go_enter Try.func75, Try.ntmps75
          go_wp2_with (first
            | ((with_reducible refine gd_ _ ?_); refine wl_guard (by rfl) ?_)
            | ((with_reducible refine s_ 1 ?_); go_must (refine wl_box (dst := some 1) (cs := #[.int .i64 n, .int .i64 i, v]) _ _ _ rfl rfl HM ?_; clear HM; intro b1 W HM))
            | ((with_reducible refine ld_ 3 ?_); go_must (refine wl_load_cell _ _ _ _ _ _ _ _ rfl HM (by repeat first | exact List.mem_cons_self .. | refine List.mem_cons_of_mem _ ?_) (by rfl) Try.underlying3 rfl ?_)))
          refine ret1 rfl (res_tmp rfl) rfl ?_
          exact ⟨rfl, HM.base⟩
        · have c4 : n ≤ i := by omega
          clear h
          go_enter Try.func75, Try.ntmps75
          go_wp2_with (first
            | ((with_reducible refine gd_ _ ?_); refine wl_guard (by rfl) ?_)
            | ((with_reducible refine s_ 1 ?_); go_must (refine wl_box (dst := some 1) (cs := #[.int .i64 n, .int .i64 i, v]) _ _ _ rfl rfl HM ?_; clear HM; intro b1 W HM))
            | ((with_reducible refine ld_ 3 ?_); go_must (refine wl_load_cell _ _ _ _ _ _ _ _ rfl HM (by repeat first | exact List.mem_cons_self .. | refine List.mem_cons_of_mem _ ?_) (by rfl) Try.underlying3 rfl ?_)))
          refine ret1 rfl (res_tmp rfl) rfl ?_
          exact ⟨rfl, HM.base⟩

set_option maxHeartbeats 800000 in
theorem steps_c : ∀ (n i : Nat) (w : World), 1 ≤ n → n ≤ 128 → i < n →
    Calls Try.prog 133 #[.int .i64 (n : Int), .int .i64 (i : Int)] w fun e w' => e = .returned (.int .i64 (stepsN n i : Nat)) ∧ Mem w w' [] := by
  intro n
  induction n using Nat.strongRecOn with
  | ind n ih =>
    intro i w h1 hn hi
    have HM := Mem.start w
    by_cases hone : n = 1
    · have hb : (n : Int) = 1 := by omega
      clear ih
      rw [stepsN_one n i (by omega)]
      go_enter Try.func133, Try.ntmps133
      go_wp2_with (fail)
      refine ret1 rfl (res_tmp rfl) rfl ?_
      exact ⟨rfl, HM⟩
    · have hb : ¬ (n : Int) = 1 := by omega
      have hs := splitN_lt n (by omega)
      by_cases hlo : i < splitN n
      · have hb2 : (i : Int) < ((splitN n : Nat) : Int) := by omega
        have hle := stepsN_le (splitN n) i
        have hw : IntKind.i64.wrap (1 + ((stepsN (splitN n) i : Nat) : Int)) = ((stepsN n i : Nat) : Int) := by rw [IntKind.wrap_i64, stepsN_lo n i (by omega) hlo]; omega
        go_enter Try.func133, Try.ntmps133
        go_wp2_with (first
          | (go_at_call 127; go_must (((with_reducible refine (rsplit_c _ (by omega) (by omega) _).mono ?_)); rintro e W ⟨rfl, HM'⟩; replace HM := HM.keep HM'.below; clear HM'))
          | (go_at_call 133; go_must (((with_reducible refine (ih (splitN n) (by omega) i _ (by omega) (by omega) (by omega)).mono ?_)); rintro e W ⟨rfl, HM'⟩; replace HM := HM.keep HM'.below; clear HM')))
        refine ret1 rfl (res_tmp rfl) rfl ?_
        exact ⟨rfl, HM⟩
      · have hb2 : ¬ (i : Int) < ((splitN n : Nat) : Int) := by omega
        have hle := stepsN_le (n - splitN n) (i - splitN n)
        have hw1 : IntKind.i64.wrap ((n : Int) - ((splitN n : Nat) : Int)) = ((n - splitN n : Nat) : Int) := by rw [IntKind.wrap_i64]; omega
        have hw2 : IntKind.i64.wrap ((i : Int) - ((splitN n : Nat) : Int)) = ((i - splitN n : Nat) : Int) := by rw [IntKind.wrap_i64]; omega
        have hw : IntKind.i64.wrap (1 + ((stepsN (n - splitN n) (i - splitN n) : Nat) : Int)) = ((stepsN n i : Nat) : Int) := by rw [IntKind.wrap_i64, stepsN_hi n i (by omega) hlo]; omega
        go_enter Try.func133, Try.ntmps133
        go_wp2_with (first
          | (go_at_call 127; go_must (((with_reducible refine (rsplit_c _ (by omega) (by omega) _).mono ?_)); rintro e W ⟨rfl, HM'⟩; replace HM := HM.keep HM'.below; clear HM'))
          | (go_at_call 133; go_must (((with_reducible refine (ih (n - splitN n) (by omega) (i - splitN n) _ (by omega) (by omega) (by omega)).mono ?_)); rintro e W ⟨rfl, HM'⟩; replace HM := HM.keep HM'.below; clear HM')))
        refine ret1 rfl (res_tmp rfl) rfl ?_
        exact ⟨rfl, HM⟩

set_option maxHeartbeats 1600000 in
theorem rFits_c (n i : Int) (v : Value) (path : List Key) (w : World) (hR : RdL encK 16 w v path) :
    Calls Try.prog 77 #[.agg #[.int .i64 n, .int .i64 i, v]] w fun e w' => e = .returned (.bool (fitB n i path.length)) ∧ Mem w w' [] := by
  have HM := Mem.start w
  by_cases h : 1 ≤ n ∧ n ≤ 128 ∧ 0 ≤ i ∧ i < n
  · obtain ⟨a1, a2, a3, a4⟩ := h
    obtain ⟨a, rfl⟩ := Int.eq_ofNat_of_zero_le (show 0 ≤ n by omega)
    obtain ⟨b, rfl⟩ := Int.eq_ofNat_of_zero_le a3
    rw [fitB_ok a b path.length (by omega) (by omega) (by omega)]
    by_cases hl : path.length = stepsN a b
    · have hb5 : (path.length : Int) = ((stepsN a b : Nat) : Int) := by omega
      go_enter Try.func77, Try.ntmps77
      go_wp2_with (first
        | ((with_reducible refine s_ 1 ?_); go_must (refine wl_box (dst := some 1) (cs := #[.int .i64 a, .int .i64 b, v]) _ _ _ rfl rfl HM ?_; clear HM; intro b1 W HM)))
      replace HM := HM.drew
      refine wp_region_mixN (fun W => Held w W [.blk b1 #[.int .i64 a, .int .i64 b, v] 52]) (fun W => Held w W [.blk b1 #[.int .i64 a, .int .i64 b, v] 52]) (.cons (2, 0) (.cons (2, 1) (.cons (2, 2) (.cons (2, 3) (.cons (2, 4) (.cons (2, 5) (.cons (2, 6) (.cons (2, 7) (.cons (2, 8) (.cons (2, 9) (.cons (2, 10) (.cons (2, 11) (.cons (2, 12) (.cons (2, 13) (.cons (2, 14) (.cons (2, 15) (.cons (2, 16) (.cons (2, 17) (.cons (2, 18) (.cons (2, 19) (.cons (2, 20) (.cons (2, 21) (.cons (2, 22) (.cons (2, 23) (.cons (2, 24) (.cons (2, 25) (.cons (2, 26) (.cons (2, 27) (.cons (0, 28) (.cons (2, 29) (.cons (2, 30) (.cons (2, 31) .nil)))))))))))))))))))))))))))))))) [] (by kernel_rfl) (by kernel_rfl) (by kernel_rfl) (fun W h => Held.weak h (by simp)) (HM.held (by simp)) ?_
      revert HM; generalize World.drew _ = W; intro HM
      have HS1 : Held w W [.blk b1 #[.int .i64 a, .int .i64 b, v] 52] := HM.held (by simp)
      have HS2 : Held w W [.blk b1 #[.int .i64 a, .int .i64 b, v] 52] := HM.held (by simp)
      refine wm_q2 (i := 0) (v := ?v1_7) (some 3) rfl rfl rfl HS2 (fun W HS => ?y1_7) ?_
      case y1_7 => (go_simp; try with_reducible rfl)
      simp only [Act.put, List.getElem_toArray, List.getElem_cons_succ, List.getElem_cons_zero, List.setIfInBounds_toArray, List.set_cons_succ, List.set_cons_zero]
      refine wm_q2 (i := 1) (some 4) rfl rfl rfl HS2 (fun W HS => (by (exact ry_load_cell _ _ _ _ _ _ _ _ HS rfl m0 rfl Try.underlying3 rfl))) ?_
      simp only [Act.put, List.getElem_toArray, List.getElem_cons_succ, List.getElem_cons_zero, List.setIfInBounds_toArray, List.set_cons_succ, List.set_cons_zero]
      refine wm_q2 (i := 2) (v := ?v1_9) (some 5) rfl rfl rfl HS2 (fun W HS => ?y1_9) ?_
      case y1_9 => (go_simp; try with_reducible rfl)
      simp only [Act.put, List.getElem_toArray, List.getElem_cons_succ, List.getElem_cons_zero, List.setIfInBounds_toArray, List.set_cons_succ, List.set_cons_zero]
      refine wm_q2 (i := 3) (v := ?v1_10) (some 6) rfl rfl rfl HS2 (fun W HS => ?y1_10) ?_
      case y1_10 => (go_simp; try with_reducible rfl)
      simp only [Act.put, List.getElem_toArray, List.getElem_cons_succ, List.getElem_cons_zero, List.setIfInBounds_toArray, List.set_cons_succ, List.set_cons_zero]
      ((refine wm_g2 (i := 4) (v := ?v1_11) (some 7) rfl rfl (by rfl) HS2 (fun W HS => ?y1_11) ?_; case y1_11 => (go_simp; try with_reducible rfl)))
      simp only [Act.put, List.getElem_toArray, List.getElem_cons_succ, List.getElem_cons_zero, List.setIfInBounds_toArray, List.set_cons_succ, List.set_cons_zero]
      ((refine wm_g2 (i := 5) (some 8) rfl rfl (by rfl) HS2 (fun W HS => (by (exact ry_load_cell _ _ _ _ _ _ _ _ HS rfl m0 rfl Try.underlying3 rfl))) ?_))
      simp only [Act.put, List.getElem_toArray, List.getElem_cons_succ, List.getElem_cons_zero, List.setIfInBounds_toArray, List.set_cons_succ, List.set_cons_zero]
      ((refine wm_g2 (i := 6) (v := ?v1_13) (some 9) rfl rfl (by rfl) HS2 (fun W HS => ?y1_13) ?_; case y1_13 => (go_simp; try with_reducible rfl)))
      simp only [Act.put, List.getElem_toArray, List.getElem_cons_succ, List.getElem_cons_zero, List.setIfInBounds_toArray, List.set_cons_succ, List.set_cons_zero]
      refine wm_q2 (i := 7) (v := ?v1_14) (some 10) rfl rfl rfl HS2 (fun W HS => ?y1_14) ?_
      case y1_14 => (go_simp; try with_reducible rfl)
      simp only [Act.put, List.getElem_toArray, List.getElem_cons_succ, List.getElem_cons_zero, List.setIfInBounds_toArray, List.set_cons_succ, List.set_cons_zero]
      refine wm_q2 (i := 8) (v := ?v1_15) (some 11) rfl rfl rfl HS2 (fun W HS => ?y1_15) ?_
      case y1_15 => (go_simp; try with_reducible rfl)
      simp only [Act.put, List.getElem_toArray, List.getElem_cons_succ, List.getElem_cons_zero, List.setIfInBounds_toArray, List.set_cons_succ, List.set_cons_zero]
      ((refine wm_g2 (i := 9) (v := ?v1_16) (some 12) rfl rfl (by rfl) HS2 (fun W HS => ?y1_16) ?_; case y1_16 => (go_simp; try with_reducible rfl)))
      simp only [Act.put, List.getElem_toArray, List.getElem_cons_succ, List.getElem_cons_zero, List.setIfInBounds_toArray, List.set_cons_succ, List.set_cons_zero]
      ((refine wm_g2 (i := 10) (some 13) rfl rfl (by rfl) HS2 (fun W HS => (by (exact ry_load_cell _ _ _ _ _ _ _ _ HS rfl m0 rfl Try.underlying3 rfl))) ?_))
      simp only [Act.put, List.getElem_toArray, List.getElem_cons_succ, List.getElem_cons_zero, List.setIfInBounds_toArray, List.set_cons_succ, List.set_cons_zero]
      ((refine wm_g2 (i := 11) (v := ?v1_18) (some 14) rfl rfl (by rfl) HS2 (fun W HS => ?y1_18) ?_; case y1_18 => (go_simp; try with_reducible rfl)))
      simp only [Act.put, List.getElem_toArray, List.getElem_cons_succ, List.getElem_cons_zero, List.setIfInBounds_toArray, List.set_cons_succ, List.set_cons_zero]
      refine wm_q2 (i := 12) (v := ?v1_19) (some 15) rfl rfl rfl HS2 (fun W HS => ?y1_19) ?_
      case y1_19 => (go_simp; try with_reducible rfl)
      simp only [Act.put, List.getElem_toArray, List.getElem_cons_succ, List.getElem_cons_zero, List.setIfInBounds_toArray, List.set_cons_succ, List.set_cons_zero]
      refine wm_q2 (i := 13) (v := ?v1_20) (some 16) rfl rfl rfl HS2 (fun W HS => ?y1_20) ?_
      case y1_20 => (go_simp; try with_reducible rfl)
      simp only [Act.put, List.getElem_toArray, List.getElem_cons_succ, List.getElem_cons_zero, List.setIfInBounds_toArray, List.set_cons_succ, List.set_cons_zero]
      ((refine wm_g2 (i := 14) (v := ?v1_21) (some 17) rfl rfl (by rfl) HS2 (fun W HS => ?y1_21) ?_; case y1_21 => (go_simp; try with_reducible rfl)))
      simp only [Act.put, List.getElem_toArray, List.getElem_cons_succ, List.getElem_cons_zero, List.setIfInBounds_toArray, List.set_cons_succ, List.set_cons_zero]
      ((refine wm_g2 (i := 15) (some 18) rfl rfl (by rfl) HS2 (fun W HS => (by (exact ry_load_cell _ _ _ _ _ _ _ _ HS rfl m0 rfl Try.underlying3 rfl))) ?_))
      simp only [Act.put, List.getElem_toArray, List.getElem_cons_succ, List.getElem_cons_zero, List.setIfInBounds_toArray, List.set_cons_succ, List.set_cons_zero]
      ((refine wm_g2 (i := 16) (v := ?v1_23) (some 19) rfl rfl (by rfl) HS2 (fun W HS => ?y1_23) ?_; case y1_23 => (go_simp; try with_reducible rfl)))
      simp only [Act.put, List.getElem_toArray, List.getElem_cons_succ, List.getElem_cons_zero, List.setIfInBounds_toArray, List.set_cons_succ, List.set_cons_zero]
      ((refine wm_g2 (i := 17) (some 20) rfl rfl (by rfl) HS2 (fun W HS => (by (exact ry_load_cell _ _ _ _ _ _ _ _ HS rfl m0 rfl Try.underlying3 rfl))) ?_))
      simp only [Act.put, List.getElem_toArray, List.getElem_cons_succ, List.getElem_cons_zero, List.setIfInBounds_toArray, List.set_cons_succ, List.set_cons_zero]
      ((refine wm_g2 (i := 18) (v := ?v1_25) (some 21) rfl rfl (by rfl) HS2 (fun W HS => ?y1_25) ?_; case y1_25 => (go_simp; try with_reducible rfl)))
      simp only [Act.put, List.getElem_toArray, List.getElem_cons_succ, List.getElem_cons_zero, List.setIfInBounds_toArray, List.set_cons_succ, List.set_cons_zero]
      refine wm_q2 (i := 19) (v := ?v1_26) (some 22) rfl rfl rfl HS2 (fun W HS => ?y1_26) ?_
      case y1_26 => (go_simp; try with_reducible rfl)
      simp only [Act.put, List.getElem_toArray, List.getElem_cons_succ, List.getElem_cons_zero, List.setIfInBounds_toArray, List.set_cons_succ, List.set_cons_zero]
      refine wm_q2 (i := 20) (v := ?v1_27) (some 23) rfl rfl rfl HS2 (fun W HS => ?y1_27) ?_
      case y1_27 => (go_simp; try with_reducible rfl)
      simp only [Act.put, List.getElem_toArray, List.getElem_cons_succ, List.getElem_cons_zero, List.setIfInBounds_toArray, List.set_cons_succ, List.set_cons_zero]
      ((refine wm_g2 (i := 21) (v := ?v1_28) (some 24) rfl rfl (by rfl) HS2 (fun W HS => ?y1_28) ?_; case y1_28 => (go_simp; try with_reducible rfl)))
      simp only [Act.put, List.getElem_toArray, List.getElem_cons_succ, List.getElem_cons_zero, List.setIfInBounds_toArray, List.set_cons_succ, List.set_cons_zero]
      ((refine wm_g2 (i := 22) (some 25) rfl rfl (by rfl) HS2 (fun W HS => (by (exact ry_load_cell _ _ _ _ _ _ _ _ HS rfl m0 rfl Try.underlying40 rfl))) ?_))
      simp only [Act.put, List.getElem_toArray, List.getElem_cons_succ, List.getElem_cons_zero, List.setIfInBounds_toArray, List.set_cons_succ, List.set_cons_zero]
      ((refine wm_g2 (i := 23) (some 26) rfl rfl (by rfl) HS2 (fun W HS => (by ((refine ry_len _ _ _ _ 23 Try.underlying40 (hR.held HS) ?_; rfl)))) ?_))
      simp only [Act.put, List.getElem_toArray, List.getElem_cons_succ, List.getElem_cons_zero, List.setIfInBounds_toArray, List.set_cons_succ, List.set_cons_zero]
      ((refine wm_g2 (i := 24) (v := ?v1_31) (some 27) rfl rfl (by rfl) HS2 (fun W HS => ?y1_31) ?_; case y1_31 => (go_simp; try with_reducible rfl)))
      simp only [Act.put, List.getElem_toArray, List.getElem_cons_succ, List.getElem_cons_zero, List.setIfInBounds_toArray, List.set_cons_succ, List.set_cons_zero]
      ((refine wm_g2 (i := 25) (some 28) rfl rfl (by rfl) HS2 (fun W HS => (by (exact ry_load_cell _ _ _ _ _ _ _ _ HS rfl m0 rfl Try.underlying3 rfl))) ?_))
      simp only [Act.put, List.getElem_toArray, List.getElem_cons_succ, List.getElem_cons_zero, List.setIfInBounds_toArray, List.set_cons_succ, List.set_cons_zero]
      ((refine wm_g2 (i := 26) (v := ?v1_33) (some 29) rfl rfl (by rfl) HS2 (fun W HS => ?y1_33) ?_; case y1_33 => (go_simp; try with_reducible rfl)))
      simp only [Act.put, List.getElem_toArray, List.getElem_cons_succ, List.getElem_cons_zero, List.setIfInBounds_toArray, List.set_cons_succ, List.set_cons_zero]
      ((refine wm_g2 (i := 27) (some 30) rfl rfl (by rfl) HS2 (fun W HS => (by (exact ry_load_cell _ _ _ _ _ _ _ _ HS rfl m0 rfl Try.underlying3 rfl))) ?_))
      simp only [Act.put, List.getElem_toArray, List.getElem_cons_succ, List.getElem_cons_zero, List.setIfInBounds_toArray, List.set_cons_succ, List.set_cons_zero]
      ((refine wm_e0 (i := 28) rfl ?_; go_wp2_with (first | ((with_reducible refine gd_ _ ?_); refine wl_guard (by rfl) ?_) | (go_at_call 133; go_must (((with_reducible refine (steps_c a b _ (by omega) (by omega) (by omega)).mono ?_)); rintro e W ⟨rfl, HM'⟩; replace HM := HM.keep HM'.below; clear HM'))); refine ⟨HM.held (by simp), ?_⟩; clear HS1 HS2; have HS1 : Held w W [.blk b1 #[.int .i64 a, .int .i64 b, v] 52] := HM.held (by simp); have HS2 : Held w W [.blk b1 #[.int .i64 a, .int .i64 b, v] 52] := HM.held (by simp)))
      ((refine wm_g2 (i := 29) (v := ?v1_35) (some 32) rfl rfl (by rfl) HS2 (fun W HS => ?y1_35) ?_; case y1_35 => (go_simp; try with_reducible rfl)))
      simp only [Act.put, List.getElem_toArray, List.getElem_cons_succ, List.getElem_cons_zero, List.setIfInBounds_toArray, List.set_cons_succ, List.set_cons_zero]
      refine wm_q2 (i := 30) (v := ?v1_36) (some 33) rfl rfl rfl HS2 (fun W HS => ?y1_36) ?_
      case y1_36 => (go_simp; try with_reducible rfl)
      simp only [Act.put, List.getElem_toArray, List.getElem_cons_succ, List.getElem_cons_zero, List.setIfInBounds_toArray, List.set_cons_succ, List.set_cons_zero]
      refine wm_q2 (i := 31) (v := ?v1_37) (some 2) rfl rfl rfl HS2 (fun W HS => ?y1_37) ?_
      case y1_37 => (go_simp; try with_reducible rfl)
      simp only [Act.put, List.getElem_toArray, List.getElem_cons_succ, List.getElem_cons_zero, List.setIfInBounds_toArray, List.set_cons_succ, List.set_cons_zero]
      refine wm_nilN ?_
      clear HS1 HS2
      go_wp2_with (fail)
      refine ret1 rfl (res_tmp rfl) rfl ?_
      exact ⟨by simp [hl], HM.base⟩
    · have hb6 : ¬ (path.length : Int) = ((stepsN a b : Nat) : Int) := by omega
      go_enter Try.func77, Try.ntmps77
      go_wp2_with (first
        | ((with_reducible refine s_ 1 ?_); go_must (refine wl_box (dst := some 1) (cs := #[.int .i64 a, .int .i64 b, v]) _ _ _ rfl rfl HM ?_; clear HM; intro b1 W HM)))
      replace HM := HM.drew
      refine wp_region_mixN (fun W => Held w W [.blk b1 #[.int .i64 a, .int .i64 b, v] 52]) (fun W => Held w W [.blk b1 #[.int .i64 a, .int .i64 b, v] 52]) (.cons (2, 0) (.cons (2, 1) (.cons (2, 2) (.cons (2, 3) (.cons (2, 4) (.cons (2, 5) (.cons (2, 6) (.cons (2, 7) (.cons (2, 8) (.cons (2, 9) (.cons (2, 10) (.cons (2, 11) (.cons (2, 12) (.cons (2, 13) (.cons (2, 14) (.cons (2, 15) (.cons (2, 16) (.cons (2, 17) (.cons (2, 18) (.cons (2, 19) (.cons (2, 20) (.cons (2, 21) (.cons (2, 22) (.cons (2, 23) (.cons (2, 24) (.cons (2, 25) (.cons (2, 26) (.cons (2, 27) (.cons (0, 28) (.cons (2, 29) (.cons (2, 30) (.cons (2, 31) .nil)))))))))))))))))))))))))))))))) [] (by kernel_rfl) (by kernel_rfl) (by kernel_rfl) (fun W h => Held.weak h (by simp)) (HM.held (by simp)) ?_
      revert HM; generalize World.drew _ = W; intro HM
      have HS1 : Held w W [.blk b1 #[.int .i64 a, .int .i64 b, v] 52] := HM.held (by simp)
      have HS2 : Held w W [.blk b1 #[.int .i64 a, .int .i64 b, v] 52] := HM.held (by simp)
      refine wm_q2 (i := 0) (v := ?v1_38) (some 3) rfl rfl rfl HS2 (fun W HS => ?y1_38) ?_
      case y1_38 => (go_simp; try with_reducible rfl)
      simp only [Act.put, List.getElem_toArray, List.getElem_cons_succ, List.getElem_cons_zero, List.setIfInBounds_toArray, List.set_cons_succ, List.set_cons_zero]
      refine wm_q2 (i := 1) (some 4) rfl rfl rfl HS2 (fun W HS => (by (exact ry_load_cell _ _ _ _ _ _ _ _ HS rfl m0 rfl Try.underlying3 rfl))) ?_
      simp only [Act.put, List.getElem_toArray, List.getElem_cons_succ, List.getElem_cons_zero, List.setIfInBounds_toArray, List.set_cons_succ, List.set_cons_zero]
      refine wm_q2 (i := 2) (v := ?v1_40) (some 5) rfl rfl rfl HS2 (fun W HS => ?y1_40) ?_
      case y1_40 => (go_simp; try with_reducible rfl)
      simp only [Act.put, List.getElem_toArray, List.getElem_cons_succ, List.getElem_cons_zero, List.setIfInBounds_toArray, List.set_cons_succ, List.set_cons_zero]
      refine wm_q2 (i := 3) (v := ?v1_41) (some 6) rfl rfl rfl HS2 (fun W HS => ?y1_41) ?_
      case y1_41 => (go_simp; try with_reducible rfl)
      simp only [Act.put, List.getElem_toArray, List.getElem_cons_succ, List.getElem_cons_zero, List.setIfInBounds_toArray, List.set_cons_succ, List.set_cons_zero]
      ((refine wm_g2 (i := 4) (v := ?v1_42) (some 7) rfl rfl (by rfl) HS2 (fun W HS => ?y1_42) ?_; case y1_42 => (go_simp; try with_reducible rfl)))
      simp only [Act.put, List.getElem_toArray, List.getElem_cons_succ, List.getElem_cons_zero, List.setIfInBounds_toArray, List.set_cons_succ, List.set_cons_zero]
      ((refine wm_g2 (i := 5) (some 8) rfl rfl (by rfl) HS2 (fun W HS => (by (exact ry_load_cell _ _ _ _ _ _ _ _ HS rfl m0 rfl Try.underlying3 rfl))) ?_))
      simp only [Act.put, List.getElem_toArray, List.getElem_cons_succ, List.getElem_cons_zero, List.setIfInBounds_toArray, List.set_cons_succ, List.set_cons_zero]
      ((refine wm_g2 (i := 6) (v := ?v1_44) (some 9) rfl rfl (by rfl) HS2 (fun W HS => ?y1_44) ?_; case y1_44 => (go_simp; try with_reducible rfl)))
      simp only [Act.put, List.getElem_toArray, List.getElem_cons_succ, List.getElem_cons_zero, List.setIfInBounds_toArray, List.set_cons_succ, List.set_cons_zero]
      refine wm_q2 (i := 7) (v := ?v1_45) (some 10) rfl rfl rfl HS2 (fun W HS => ?y1_45) ?_
      case y1_45 => (go_simp; try with_reducible rfl)
      simp only [Act.put, List.getElem_toArray, List.getElem_cons_succ, List.getElem_cons_zero, List.setIfInBounds_toArray, List.set_cons_succ, List.set_cons_zero]
      refine wm_q2 (i := 8) (v := ?v1_46) (some 11) rfl rfl rfl HS2 (fun W HS => ?y1_46) ?_
      case y1_46 => (go_simp; try with_reducible rfl)
      simp only [Act.put, List.getElem_toArray, List.getElem_cons_succ, List.getElem_cons_zero, List.setIfInBounds_toArray, List.set_cons_succ, List.set_cons_zero]
      ((refine wm_g2 (i := 9) (v := ?v1_47) (some 12) rfl rfl (by rfl) HS2 (fun W HS => ?y1_47) ?_; case y1_47 => (go_simp; try with_reducible rfl)))
      simp only [Act.put, List.getElem_toArray, List.getElem_cons_succ, List.getElem_cons_zero, List.setIfInBounds_toArray, List.set_cons_succ, List.set_cons_zero]
      ((refine wm_g2 (i := 10) (some 13) rfl rfl (by rfl) HS2 (fun W HS => (by (exact ry_load_cell _ _ _ _ _ _ _ _ HS rfl m0 rfl Try.underlying3 rfl))) ?_))
      simp only [Act.put, List.getElem_toArray, List.getElem_cons_succ, List.getElem_cons_zero, List.setIfInBounds_toArray, List.set_cons_succ, List.set_cons_zero]
      ((refine wm_g2 (i := 11) (v := ?v1_49) (some 14) rfl rfl (by rfl) HS2 (fun W HS => ?y1_49) ?_; case y1_49 => (go_simp; try with_reducible rfl)))
      simp only [Act.put, List.getElem_toArray, List.getElem_cons_succ, List.getElem_cons_zero, List.setIfInBounds_toArray, List.set_cons_succ, List.set_cons_zero]
      refine wm_q2 (i := 12) (v := ?v1_50) (some 15) rfl rfl rfl HS2 (fun W HS => ?y1_50) ?_
      case y1_50 => (go_simp; try with_reducible rfl)
      simp only [Act.put, List.getElem_toArray, List.getElem_cons_succ, List.getElem_cons_zero, List.setIfInBounds_toArray, List.set_cons_succ, List.set_cons_zero]
      refine wm_q2 (i := 13) (v := ?v1_51) (some 16) rfl rfl rfl HS2 (fun W HS => ?y1_51) ?_
      case y1_51 => (go_simp; try with_reducible rfl)
      simp only [Act.put, List.getElem_toArray, List.getElem_cons_succ, List.getElem_cons_zero, List.setIfInBounds_toArray, List.set_cons_succ, List.set_cons_zero]
      ((refine wm_g2 (i := 14) (v := ?v1_52) (some 17) rfl rfl (by rfl) HS2 (fun W HS => ?y1_52) ?_; case y1_52 => (go_simp; try with_reducible rfl)))
      simp only [Act.put, List.getElem_toArray, List.getElem_cons_succ, List.getElem_cons_zero, List.setIfInBounds_toArray, List.set_cons_succ, List.set_cons_zero]
      ((refine wm_g2 (i := 15) (some 18) rfl rfl (by rfl) HS2 (fun W HS => (by (exact ry_load_cell _ _ _ _ _ _ _ _ HS rfl m0 rfl Try.underlying3 rfl))) ?_))
      simp only [Act.put, List.getElem_toArray, List.getElem_cons_succ, List.getElem_cons_zero, List.setIfInBounds_toArray, List.set_cons_succ, List.set_cons_zero]
      ((refine wm_g2 (i := 16) (v := ?v1_54) (some 19) rfl rfl (by rfl) HS2 (fun W HS => ?y1_54) ?_; case y1_54 => (go_simp; try with_reducible rfl)))
      simp only [Act.put, List.getElem_toArray, List.getElem_cons_succ, List.getElem_cons_zero, List.setIfInBounds_toArray, List.set_cons_succ, List.set_cons_zero]
      ((refine wm_g2 (i := 17) (some 20) rfl rfl (by rfl) HS2 (fun W HS => (by (exact ry_load_cell _ _ _ _ _ _ _ _ HS rfl m0 rfl Try.underlying3 rfl))) ?_))
      simp only [Act.put, List.getElem_toArray, List.getElem_cons_succ, List.getElem_cons_zero, List.setIfInBounds_toArray, List.set_cons_succ, List.set_cons_zero]
      ((refine wm_g2 (i := 18) (v := ?v1_56) (some 21) rfl rfl (by rfl) HS2 (fun W HS => ?y1_56) ?_; case y1_56 => (go_simp; try with_reducible rfl)))
      simp only [Act.put, List.getElem_toArray, List.getElem_cons_succ, List.getElem_cons_zero, List.setIfInBounds_toArray, List.set_cons_succ, List.set_cons_zero]
      refine wm_q2 (i := 19) (v := ?v1_57) (some 22) rfl rfl rfl HS2 (fun W HS => ?y1_57) ?_
      case y1_57 => (go_simp; try with_reducible rfl)
      simp only [Act.put, List.getElem_toArray, List.getElem_cons_succ, List.getElem_cons_zero, List.setIfInBounds_toArray, List.set_cons_succ, List.set_cons_zero]
      refine wm_q2 (i := 20) (v := ?v1_58) (some 23) rfl rfl rfl HS2 (fun W HS => ?y1_58) ?_
      case y1_58 => (go_simp; try with_reducible rfl)
      simp only [Act.put, List.getElem_toArray, List.getElem_cons_succ, List.getElem_cons_zero, List.setIfInBounds_toArray, List.set_cons_succ, List.set_cons_zero]
      ((refine wm_g2 (i := 21) (v := ?v1_59) (some 24) rfl rfl (by rfl) HS2 (fun W HS => ?y1_59) ?_; case y1_59 => (go_simp; try with_reducible rfl)))
      simp only [Act.put, List.getElem_toArray, List.getElem_cons_succ, List.getElem_cons_zero, List.setIfInBounds_toArray, List.set_cons_succ, List.set_cons_zero]
      ((refine wm_g2 (i := 22) (some 25) rfl rfl (by rfl) HS2 (fun W HS => (by (exact ry_load_cell _ _ _ _ _ _ _ _ HS rfl m0 rfl Try.underlying40 rfl))) ?_))
      simp only [Act.put, List.getElem_toArray, List.getElem_cons_succ, List.getElem_cons_zero, List.setIfInBounds_toArray, List.set_cons_succ, List.set_cons_zero]
      ((refine wm_g2 (i := 23) (some 26) rfl rfl (by rfl) HS2 (fun W HS => (by ((refine ry_len _ _ _ _ 23 Try.underlying40 (hR.held HS) ?_; rfl)))) ?_))
      simp only [Act.put, List.getElem_toArray, List.getElem_cons_succ, List.getElem_cons_zero, List.setIfInBounds_toArray, List.set_cons_succ, List.set_cons_zero]
      ((refine wm_g2 (i := 24) (v := ?v1_62) (some 27) rfl rfl (by rfl) HS2 (fun W HS => ?y1_62) ?_; case y1_62 => (go_simp; try with_reducible rfl)))
      simp only [Act.put, List.getElem_toArray, List.getElem_cons_succ, List.getElem_cons_zero, List.setIfInBounds_toArray, List.set_cons_succ, List.set_cons_zero]
      ((refine wm_g2 (i := 25) (some 28) rfl rfl (by rfl) HS2 (fun W HS => (by (exact ry_load_cell _ _ _ _ _ _ _ _ HS rfl m0 rfl Try.underlying3 rfl))) ?_))
      simp only [Act.put, List.getElem_toArray, List.getElem_cons_succ, List.getElem_cons_zero, List.setIfInBounds_toArray, List.set_cons_succ, List.set_cons_zero]
      ((refine wm_g2 (i := 26) (v := ?v1_64) (some 29) rfl rfl (by rfl) HS2 (fun W HS => ?y1_64) ?_; case y1_64 => (go_simp; try with_reducible rfl)))
      simp only [Act.put, List.getElem_toArray, List.getElem_cons_succ, List.getElem_cons_zero, List.setIfInBounds_toArray, List.set_cons_succ, List.set_cons_zero]
      ((refine wm_g2 (i := 27) (some 30) rfl rfl (by rfl) HS2 (fun W HS => (by (exact ry_load_cell _ _ _ _ _ _ _ _ HS rfl m0 rfl Try.underlying3 rfl))) ?_))
      simp only [Act.put, List.getElem_toArray, List.getElem_cons_succ, List.getElem_cons_zero, List.setIfInBounds_toArray, List.set_cons_succ, List.set_cons_zero]
      ((refine wm_e0 (i := 28) rfl ?_; go_wp2_with (first | ((with_reducible refine gd_ _ ?_); refine wl_guard (by rfl) ?_) | (go_at_call 133; go_must (((with_reducible refine (steps_c a b _ (by omega) (by omega) (by omega)).mono ?_)); rintro e W ⟨rfl, HM'⟩; replace HM := HM.keep HM'.below; clear HM'))); refine ⟨HM.held (by simp), ?_⟩; clear HS1 HS2; have HS1 : Held w W [.blk b1 #[.int .i64 a, .int .i64 b, v] 52] := HM.held (by simp); have HS2 : Held w W [.blk b1 #[.int .i64 a, .int .i64 b, v] 52] := HM.held (by simp)))
      ((refine wm_g2 (i := 29) (v := ?v1_66) (some 32) rfl rfl (by rfl) HS2 (fun W HS => ?y1_66) ?_; case y1_66 => (go_simp; try with_reducible rfl)))
      simp only [Act.put, List.getElem_toArray, List.getElem_cons_succ, List.getElem_cons_zero, List.setIfInBounds_toArray, List.set_cons_succ, List.set_cons_zero]
      refine wm_q2 (i := 30) (v := ?v1_67) (some 33) rfl rfl rfl HS2 (fun W HS => ?y1_67) ?_
      case y1_67 => (go_simp; try with_reducible rfl)
      simp only [Act.put, List.getElem_toArray, List.getElem_cons_succ, List.getElem_cons_zero, List.setIfInBounds_toArray, List.set_cons_succ, List.set_cons_zero]
      refine wm_q2 (i := 31) (v := ?v1_68) (some 2) rfl rfl rfl HS2 (fun W HS => ?y1_68) ?_
      case y1_68 => (go_simp; try with_reducible rfl)
      simp only [Act.put, List.getElem_toArray, List.getElem_cons_succ, List.getElem_cons_zero, List.setIfInBounds_toArray, List.set_cons_succ, List.set_cons_zero]
      refine wm_nilN ?_
      clear HS1 HS2
      go_wp2_with (fail)
      refine ret1 rfl (res_tmp rfl) rfl ?_
      exact ⟨by simp [hl]; omega, HM.base⟩
  · rw [fitB_no n i path.length h]
    by_cases c1 : n < 1
    · have e1 : decide (1 ≤ n) = false := by simp; omega
      clear h
      go_enter Try.func77, Try.ntmps77
      go_wp2_with (first
        | ((with_reducible refine s_ 1 ?_); go_must (refine wl_box (dst := some 1) (cs := #[.int .i64 n, .int .i64 i, v]) _ _ _ rfl rfl HM ?_; clear HM; intro b1 W HM)))
      replace HM := HM.drew
      refine wp_region_mixN (fun W => Held w W [.blk b1 #[.int .i64 n, .int .i64 i, v] 52]) (fun W => Held w W [.blk b1 #[.int .i64 n, .int .i64 i, v] 52]) (.cons (2, 0) (.cons (2, 1) (.cons (2, 2) (.cons (2, 3) (.cons (2, 4) (.cons (2, 5) (.cons (2, 6) (.cons (2, 7) (.cons (2, 8) (.cons (2, 9) (.cons (2, 10) (.cons (2, 11) (.cons (2, 12) (.cons (2, 13) (.cons (2, 14) (.cons (2, 15) (.cons (2, 16) (.cons (2, 17) (.cons (2, 18) (.cons (2, 19) (.cons (2, 20) (.cons (2, 21) (.cons (2, 22) (.cons (2, 23) (.cons (2, 24) (.cons (2, 25) (.cons (2, 26) (.cons (2, 27) (.cons (0, 28) (.cons (2, 29) (.cons (2, 30) (.cons (2, 31) .nil)))))))))))))))))))))))))))))))) [] (by kernel_rfl) (by kernel_rfl) (by kernel_rfl) (fun W h => Held.weak h (by simp)) (HM.held (by simp)) ?_
      revert HM; generalize World.drew _ = W; intro HM
      have HS1 : Held w W [.blk b1 #[.int .i64 n, .int .i64 i, v] 52] := HM.held (by simp)
      have HS2 : Held w W [.blk b1 #[.int .i64 n, .int .i64 i, v] 52] := HM.held (by simp)
      refine wm_q2 (i := 0) (v := ?v1_69) (some 3) rfl rfl rfl HS2 (fun W HS => ?y1_69) ?_
      case y1_69 => (go_simp; try with_reducible rfl)
      simp only [Act.put, List.getElem_toArray, List.getElem_cons_succ, List.getElem_cons_zero, List.setIfInBounds_toArray, List.set_cons_succ, List.set_cons_zero]
      refine wm_q2 (i := 1) (some 4) rfl rfl rfl HS2 (fun W HS => (by (exact ry_load_cell _ _ _ _ _ _ _ _ HS rfl m0 rfl Try.underlying3 rfl))) ?_
      simp only [Act.put, List.getElem_toArray, List.getElem_cons_succ, List.getElem_cons_zero, List.setIfInBounds_toArray, List.set_cons_succ, List.set_cons_zero]
      refine wm_q2 (i := 2) (v := ?v1_71) (some 5) rfl rfl rfl HS2 (fun W HS => ?y1_71) ?_
      case y1_71 => (go_simp; try with_reducible rfl)
      simp only [Act.put, List.getElem_toArray, List.getElem_cons_succ, List.getElem_cons_zero, List.setIfInBounds_toArray, List.set_cons_succ, List.set_cons_zero]
      refine wm_q2 (i := 3) (v := ?v1_72) (some 6) rfl rfl rfl HS2 (fun W HS => ?y1_72) ?_
      case y1_72 => (go_simp; try with_reducible rfl)
      simp only [Act.put, List.getElem_toArray, List.getElem_cons_succ, List.getElem_cons_zero, List.setIfInBounds_toArray, List.set_cons_succ, List.set_cons_zero]
      ((refine wm_s2 (i := 4) (some 7) rfl rfl (by rfl) HS2 ?_))
      simp only [Act.put, List.getElem_toArray, List.getElem_cons_succ, List.getElem_cons_zero, List.setIfInBounds_toArray, List.set_cons_succ, List.set_cons_zero]
      ((refine wm_s2 (i := 5) (some 8) rfl rfl (by rfl) HS2 ?_))
      simp only [Act.put, List.getElem_toArray, List.getElem_cons_succ, List.getElem_cons_zero, List.setIfInBounds_toArray, List.set_cons_succ, List.set_cons_zero]
      ((refine wm_s2 (i := 6) (some 9) rfl rfl (by rfl) HS2 ?_))
      simp only [Act.put, List.getElem_toArray, List.getElem_cons_succ, List.getElem_cons_zero, List.setIfInBounds_toArray, List.set_cons_succ, List.set_cons_zero]
      refine wm_q2 (i := 7) (v := ?v1_76) (some 10) rfl rfl rfl HS2 (fun W HS => ?y1_76) ?_
      case y1_76 => (go_simp; try with_reducible rfl)
      simp only [Act.put, List.getElem_toArray, List.getElem_cons_succ, List.getElem_cons_zero, List.setIfInBounds_toArray, List.set_cons_succ, List.set_cons_zero]
      refine wm_q2 (i := 8) (v := ?v1_77) (some 11) rfl rfl rfl HS2 (fun W HS => ?y1_77) ?_
      case y1_77 => (go_simp; try with_reducible rfl)
      simp only [Act.put, List.getElem_toArray, List.getElem_cons_succ, List.getElem_cons_zero, List.setIfInBounds_toArray, List.set_cons_succ, List.set_cons_zero]
      ((refine wm_s2 (i := 9) (some 12) rfl rfl (by rfl) HS2 ?_))
      simp only [Act.put, List.getElem_toArray, List.getElem_cons_succ, List.getElem_cons_zero, List.setIfInBounds_toArray, List.set_cons_succ, List.set_cons_zero]
      ((refine wm_s2 (i := 10) (some 13) rfl rfl (by rfl) HS2 ?_))
      simp only [Act.put, List.getElem_toArray, List.getElem_cons_succ, List.getElem_cons_zero, List.setIfInBounds_toArray, List.set_cons_succ, List.set_cons_zero]
      ((refine wm_s2 (i := 11) (some 14) rfl rfl (by rfl) HS2 ?_))
      simp only [Act.put, List.getElem_toArray, List.getElem_cons_succ, List.getElem_cons_zero, List.setIfInBounds_toArray, List.set_cons_succ, List.set_cons_zero]
      refine wm_q2 (i := 12) (v := ?v1_81) (some 15) rfl rfl rfl HS2 (fun W HS => ?y1_81) ?_
      case y1_81 => (go_simp; try with_reducible rfl)
      simp only [Act.put, List.getElem_toArray, List.getElem_cons_succ, List.getElem_cons_zero, List.setIfInBounds_toArray, List.set_cons_succ, List.set_cons_zero]
      refine wm_q2 (i := 13) (v := ?v1_82) (some 16) rfl rfl rfl HS2 (fun W HS => ?y1_82) ?_
      case y1_82 => (go_simp; try with_reducible rfl)
      simp only [Act.put, List.getElem_toArray, List.getElem_cons_succ, List.getElem_cons_zero, List.setIfInBounds_toArray, List.set_cons_succ, List.set_cons_zero]
      ((refine wm_s2 (i := 14) (some 17) rfl rfl (by rfl) HS2 ?_))
      simp only [Act.put, List.getElem_toArray, List.getElem_cons_succ, List.getElem_cons_zero, List.setIfInBounds_toArray, List.set_cons_succ, List.set_cons_zero]
      ((refine wm_s2 (i := 15) (some 18) rfl rfl (by rfl) HS2 ?_))
      simp only [Act.put, List.getElem_toArray, List.getElem_cons_succ, List.getElem_cons_zero, List.setIfInBounds_toArray, List.set_cons_succ, List.set_cons_zero]
      ((refine wm_s2 (i := 16) (some 19) rfl rfl (by rfl) HS2 ?_))
      simp only [Act.put, List.getElem_toArray, List.getElem_cons_succ, List.getElem_cons_zero, List.setIfInBounds_toArray, List.set_cons_succ, List.set_cons_zero]
      ((refine wm_s2 (i := 17) (some 20) rfl rfl (by rfl) HS2 ?_))
      simp only [Act.put, List.getElem_toArray, List.getElem_cons_succ, List.getElem_cons_zero, List.setIfInBounds_toArray, List.set_cons_succ, List.set_cons_zero]
      ((refine wm_s2 (i := 18) (some 21) rfl rfl (by rfl) HS2 ?_))
      simp only [Act.put, List.getElem_toArray, List.getElem_cons_succ, List.getElem_cons_zero, List.setIfInBounds_toArray, List.set_cons_succ, List.set_cons_zero]
      refine wm_q2 (i := 19) (v := ?v1_88) (some 22) rfl rfl rfl HS2 (fun W HS => ?y1_88) ?_
      case y1_88 => (go_simp; try with_reducible rfl)
      simp only [Act.put, List.getElem_toArray, List.getElem_cons_succ, List.getElem_cons_zero, List.setIfInBounds_toArray, List.set_cons_succ, List.set_cons_zero]
      refine wm_q2 (i := 20) (v := ?v1_89) (some 23) rfl rfl rfl HS2 (fun W HS => ?y1_89) ?_
      case y1_89 => (go_simp; try with_reducible rfl)
      simp only [Act.put, List.getElem_toArray, List.getElem_cons_succ, List.getElem_cons_zero, List.setIfInBounds_toArray, List.set_cons_succ, List.set_cons_zero]
      ((refine wm_s2 (i := 21) (some 24) rfl rfl (by rfl) HS2 ?_))
      simp only [Act.put, List.getElem_toArray, List.getElem_cons_succ, List.getElem_cons_zero, List.setIfInBounds_toArray, List.set_cons_succ, List.set_cons_zero]
      ((refine wm_s2 (i := 22) (some 25) rfl rfl (by rfl) HS2 ?_))
      simp only [Act.put, List.getElem_toArray, List.getElem_cons_succ, List.getElem_cons_zero, List.setIfInBounds_toArray, List.set_cons_succ, List.set_cons_zero]
      ((refine wm_s2 (i := 23) (some 26) rfl rfl (by rfl) HS2 ?_))
      simp only [Act.put, List.getElem_toArray, List.getElem_cons_succ, List.getElem_cons_zero, List.setIfInBounds_toArray, List.set_cons_succ, List.set_cons_zero]
      ((refine wm_s2 (i := 24) (some 27) rfl rfl (by rfl) HS2 ?_))
      simp only [Act.put, List.getElem_toArray, List.getElem_cons_succ, List.getElem_cons_zero, List.setIfInBounds_toArray, List.set_cons_succ, List.set_cons_zero]
      ((refine wm_s2 (i := 25) (some 28) rfl rfl (by rfl) HS2 ?_))
      simp only [Act.put, List.getElem_toArray, List.getElem_cons_succ, List.getElem_cons_zero, List.setIfInBounds_toArray, List.set_cons_succ, List.set_cons_zero]
      ((refine wm_s2 (i := 26) (some 29) rfl rfl (by rfl) HS2 ?_))
      simp only [Act.put, List.getElem_toArray, List.getElem_cons_succ, List.getElem_cons_zero, List.setIfInBounds_toArray, List.set_cons_succ, List.set_cons_zero]
      ((refine wm_s2 (i := 27) (some 30) rfl rfl (by rfl) HS2 ?_))
      simp only [Act.put, List.getElem_toArray, List.getElem_cons_succ, List.getElem_cons_zero, List.setIfInBounds_toArray, List.set_cons_succ, List.set_cons_zero]
      ((refine wm_es0 (i := 28) (some 31) rfl rfl (by rfl) HS1 ?_; simp only [Act.put, List.getElem_toArray, List.getElem_cons_succ, List.getElem_cons_zero, List.setIfInBounds_toArray, List.set_cons_succ, List.set_cons_zero]))
      ((refine wm_s2 (i := 29) (some 32) rfl rfl (by rfl) HS2 ?_))
      simp only [Act.put, List.getElem_toArray, List.getElem_cons_succ, List.getElem_cons_zero, List.setIfInBounds_toArray, List.set_cons_succ, List.set_cons_zero]
      refine wm_q2 (i := 30) (v := ?v1_98) (some 33) rfl rfl rfl HS2 (fun W HS => ?y1_98) ?_
      case y1_98 => (go_simp; try with_reducible rfl)
      simp only [Act.put, List.getElem_toArray, List.getElem_cons_succ, List.getElem_cons_zero, List.setIfInBounds_toArray, List.set_cons_succ, List.set_cons_zero]
      refine wm_q2 (i := 31) (v := ?v1_99) (some 2) rfl rfl rfl HS2 (fun W HS => ?y1_99) ?_
      case y1_99 => (go_simp; try with_reducible rfl)
      simp only [Act.put, List.getElem_toArray, List.getElem_cons_succ, List.getElem_cons_zero, List.setIfInBounds_toArray, List.set_cons_succ, List.set_cons_zero]
      refine wm_nilN ?_
      clear HS1 HS2
      go_wp2_with (fail)
      refine ret1 rfl (res_tmp rfl) rfl ?_
      exact ⟨rfl, HM.base⟩
    · by_cases c2 : 128 < n
      · have e1 : 1 ≤ n := by omega
        have e2 : decide (n ≤ 128) = false := by simp; omega
        clear h
        go_enter Try.func77, Try.ntmps77
        go_wp2_with (first
          | ((with_reducible refine s_ 1 ?_); go_must (refine wl_box (dst := some 1) (cs := #[.int .i64 n, .int .i64 i, v]) _ _ _ rfl rfl HM ?_; clear HM; intro b1 W HM)))
        replace HM := HM.drew
        refine wp_region_mixN (fun W => Held w W [.blk b1 #[.int .i64 n, .int .i64 i, v] 52]) (fun W => Held w W [.blk b1 #[.int .i64 n, .int .i64 i, v] 52]) (.cons (2, 0) (.cons (2, 1) (.cons (2, 2) (.cons (2, 3) (.cons (2, 4) (.cons (2, 5) (.cons (2, 6) (.cons (2, 7) (.cons (2, 8) (.cons (2, 9) (.cons (2, 10) (.cons (2, 11) (.cons (2, 12) (.cons (2, 13) (.cons (2, 14) (.cons (2, 15) (.cons (2, 16) (.cons (2, 17) (.cons (2, 18) (.cons (2, 19) (.cons (2, 20) (.cons (2, 21) (.cons (2, 22) (.cons (2, 23) (.cons (2, 24) (.cons (2, 25) (.cons (2, 26) (.cons (2, 27) (.cons (0, 28) (.cons (2, 29) (.cons (2, 30) (.cons (2, 31) .nil)))))))))))))))))))))))))))))))) [] (by kernel_rfl) (by kernel_rfl) (by kernel_rfl) (fun W h => Held.weak h (by simp)) (HM.held (by simp)) ?_
        revert HM; generalize World.drew _ = W; intro HM
        have HS1 : Held w W [.blk b1 #[.int .i64 n, .int .i64 i, v] 52] := HM.held (by simp)
        have HS2 : Held w W [.blk b1 #[.int .i64 n, .int .i64 i, v] 52] := HM.held (by simp)
        refine wm_q2 (i := 0) (v := ?v1_100) (some 3) rfl rfl rfl HS2 (fun W HS => ?y1_100) ?_
        case y1_100 => (go_simp; try with_reducible rfl)
        simp only [Act.put, List.getElem_toArray, List.getElem_cons_succ, List.getElem_cons_zero, List.setIfInBounds_toArray, List.set_cons_succ, List.set_cons_zero]
        refine wm_q2 (i := 1) (some 4) rfl rfl rfl HS2 (fun W HS => (by (exact ry_load_cell _ _ _ _ _ _ _ _ HS rfl m0 rfl Try.underlying3 rfl))) ?_
        simp only [Act.put, List.getElem_toArray, List.getElem_cons_succ, List.getElem_cons_zero, List.setIfInBounds_toArray, List.set_cons_succ, List.set_cons_zero]
        refine wm_q2 (i := 2) (v := ?v1_102) (some 5) rfl rfl rfl HS2 (fun W HS => ?y1_102) ?_
        case y1_102 => (go_simp; try with_reducible rfl)
        simp only [Act.put, List.getElem_toArray, List.getElem_cons_succ, List.getElem_cons_zero, List.setIfInBounds_toArray, List.set_cons_succ, List.set_cons_zero]
        refine wm_q2 (i := 3) (v := ?v1_103) (some 6) rfl rfl rfl HS2 (fun W HS => ?y1_103) ?_
        case y1_103 => (go_simp; try with_reducible rfl)
        simp only [Act.put, List.getElem_toArray, List.getElem_cons_succ, List.getElem_cons_zero, List.setIfInBounds_toArray, List.set_cons_succ, List.set_cons_zero]
        ((refine wm_g2 (i := 4) (v := ?v1_104) (some 7) rfl rfl (by rfl) HS2 (fun W HS => ?y1_104) ?_; case y1_104 => (go_simp; try with_reducible rfl)))
        simp only [Act.put, List.getElem_toArray, List.getElem_cons_succ, List.getElem_cons_zero, List.setIfInBounds_toArray, List.set_cons_succ, List.set_cons_zero]
        ((refine wm_g2 (i := 5) (some 8) rfl rfl (by rfl) HS2 (fun W HS => (by (exact ry_load_cell _ _ _ _ _ _ _ _ HS rfl m0 rfl Try.underlying3 rfl))) ?_))
        simp only [Act.put, List.getElem_toArray, List.getElem_cons_succ, List.getElem_cons_zero, List.setIfInBounds_toArray, List.set_cons_succ, List.set_cons_zero]
        ((refine wm_g2 (i := 6) (v := ?v1_106) (some 9) rfl rfl (by rfl) HS2 (fun W HS => ?y1_106) ?_; case y1_106 => (go_simp; try with_reducible rfl)))
        simp only [Act.put, List.getElem_toArray, List.getElem_cons_succ, List.getElem_cons_zero, List.setIfInBounds_toArray, List.set_cons_succ, List.set_cons_zero]
        refine wm_q2 (i := 7) (v := ?v1_107) (some 10) rfl rfl rfl HS2 (fun W HS => ?y1_107) ?_
        case y1_107 => (go_simp; try with_reducible rfl)
        simp only [Act.put, List.getElem_toArray, List.getElem_cons_succ, List.getElem_cons_zero, List.setIfInBounds_toArray, List.set_cons_succ, List.set_cons_zero]
        refine wm_q2 (i := 8) (v := ?v1_108) (some 11) rfl rfl rfl HS2 (fun W HS => ?y1_108) ?_
        case y1_108 => (go_simp; try with_reducible rfl)
        simp only [Act.put, List.getElem_toArray, List.getElem_cons_succ, List.getElem_cons_zero, List.setIfInBounds_toArray, List.set_cons_succ, List.set_cons_zero]
        ((refine wm_s2 (i := 9) (some 12) rfl rfl (by rfl) HS2 ?_))
        simp only [Act.put, List.getElem_toArray, List.getElem_cons_succ, List.getElem_cons_zero, List.setIfInBounds_toArray, List.set_cons_succ, List.set_cons_zero]
        ((refine wm_s2 (i := 10) (some 13) rfl rfl (by rfl) HS2 ?_))
        simp only [Act.put, List.getElem_toArray, List.getElem_cons_succ, List.getElem_cons_zero, List.setIfInBounds_toArray, List.set_cons_succ, List.set_cons_zero]
        ((refine wm_s2 (i := 11) (some 14) rfl rfl (by rfl) HS2 ?_))
        simp only [Act.put, List.getElem_toArray, List.getElem_cons_succ, List.getElem_cons_zero, List.setIfInBounds_toArray, List.set_cons_succ, List.set_cons_zero]
        refine wm_q2 (i := 12) (v := ?v1_112) (some 15) rfl rfl rfl HS2 (fun W HS => ?y1_112) ?_
        case y1_112 => (go_simp; try with_reducible rfl)
        simp only [Act.put, List.getElem_toArray, List.getElem_cons_succ, List.getElem_cons_zero, List.setIfInBounds_toArray, List.set_cons_succ, List.set_cons_zero]
        refine wm_q2 (i := 13) (v := ?v1_113) (some 16) rfl rfl rfl HS2 (fun W HS => ?y1_113) ?_
        case y1_113 => (go_simp; try with_reducible rfl)
        simp only [Act.put, List.getElem_toArray, List.getElem_cons_succ, List.getElem_cons_zero, List.setIfInBounds_toArray, List.set_cons_succ, List.set_cons_zero]
        ((refine wm_s2 (i := 14) (some 17) rfl rfl (by rfl) HS2 ?_))
        simp only [Act.put, List.getElem_toArray, List.getElem_cons_succ, List.getElem_cons_zero, List.setIfInBounds_toArray, List.set_cons_succ, List.set_cons_zero]
        ((refine wm_s2 (i := 15) (some 18) rfl rfl (by rfl) HS2 ?_))
        simp only [Act.put, List.getElem_toArray, List.getElem_cons_succ, List.getElem_cons_zero, List.setIfInBounds_toArray, List.set_cons_succ, List.set_cons_zero]
        ((refine wm_s2 (i := 16) (some 19) rfl rfl (by rfl) HS2 ?_))
        simp only [Act.put, List.getElem_toArray, List.getElem_cons_succ, List.getElem_cons_zero, List.setIfInBounds_toArray, List.set_cons_succ, List.set_cons_zero]
        ((refine wm_s2 (i := 17) (some 20) rfl rfl (by rfl) HS2 ?_))
        simp only [Act.put, List.getElem_toArray, List.getElem_cons_succ, List.getElem_cons_zero, List.setIfInBounds_toArray, List.set_cons_succ, List.set_cons_zero]
        ((refine wm_s2 (i := 18) (some 21) rfl rfl (by rfl) HS2 ?_))
        simp only [Act.put, List.getElem_toArray, List.getElem_cons_succ, List.getElem_cons_zero, List.setIfInBounds_toArray, List.set_cons_succ, List.set_cons_zero]
        refine wm_q2 (i := 19) (v := ?v1_119) (some 22) rfl rfl rfl HS2 (fun W HS => ?y1_119) ?_
        case y1_119 => (go_simp; try with_reducible rfl)
        simp only [Act.put, List.getElem_toArray, List.getElem_cons_succ, List.getElem_cons_zero, List.setIfInBounds_toArray, List.set_cons_succ, List.set_cons_zero]
        refine wm_q2 (i := 20) (v := ?v1_120) (some 23) rfl rfl rfl HS2 (fun W HS => ?y1_120) ?_
        case y1_120 => (go_simp; try with_reducible rfl)
        simp only [Act.put, List.getElem_toArray, List.getElem_cons_succ, List.getElem_cons_zero, List.setIfInBounds_toArray, List.set_cons_succ, List.set_cons_zero]
        ((refine wm_s2 (i := 21) (some 24) rfl rfl (by rfl) HS2 ?_))
        simp only [Act.put, List.getElem_toArray, List.getElem_cons_succ, List.getElem_cons_zero, List.setIfInBounds_toArray, List.set_cons_succ, List.set_cons_zero]
        ((refine wm_s2 (i := 22) (some 25) rfl rfl (by rfl) HS2 ?_))
        simp only [Act.put, List.getElem_toArray, List.getElem_cons_succ, List.getElem_cons_zero, List.setIfInBounds_toArray, List.set_cons_succ, List.set_cons_zero]
        ((refine wm_s2 (i := 23) (some 26) rfl rfl (by rfl) HS2 ?_))
        simp only [Act.put, List.getElem_toArray, List.getElem_cons_succ, List.getElem_cons_zero, List.setIfInBounds_toArray, List.set_cons_succ, List.set_cons_zero]
        ((refine wm_s2 (i := 24) (some 27) rfl rfl (by rfl) HS2 ?_))
        simp only [Act.put, List.getElem_toArray, List.getElem_cons_succ, List.getElem_cons_zero, List.setIfInBounds_toArray, List.set_cons_succ, List.set_cons_zero]
        ((refine wm_s2 (i := 25) (some 28) rfl rfl (by rfl) HS2 ?_))
        simp only [Act.put, List.getElem_toArray, List.getElem_cons_succ, List.getElem_cons_zero, List.setIfInBounds_toArray, List.set_cons_succ, List.set_cons_zero]
        ((refine wm_s2 (i := 26) (some 29) rfl rfl (by rfl) HS2 ?_))
        simp only [Act.put, List.getElem_toArray, List.getElem_cons_succ, List.getElem_cons_zero, List.setIfInBounds_toArray, List.set_cons_succ, List.set_cons_zero]
        ((refine wm_s2 (i := 27) (some 30) rfl rfl (by rfl) HS2 ?_))
        simp only [Act.put, List.getElem_toArray, List.getElem_cons_succ, List.getElem_cons_zero, List.setIfInBounds_toArray, List.set_cons_succ, List.set_cons_zero]
        ((refine wm_es0 (i := 28) (some 31) rfl rfl (by rfl) HS1 ?_; simp only [Act.put, List.getElem_toArray, List.getElem_cons_succ, List.getElem_cons_zero, List.setIfInBounds_toArray, List.set_cons_succ, List.set_cons_zero]))
        ((refine wm_s2 (i := 29) (some 32) rfl rfl (by rfl) HS2 ?_))
        simp only [Act.put, List.getElem_toArray, List.getElem_cons_succ, List.getElem_cons_zero, List.setIfInBounds_toArray, List.set_cons_succ, List.set_cons_zero]
        refine wm_q2 (i := 30) (v := ?v1_129) (some 33) rfl rfl rfl HS2 (fun W HS => ?y1_129) ?_
        case y1_129 => (go_simp; try with_reducible rfl)
        simp only [Act.put, List.getElem_toArray, List.getElem_cons_succ, List.getElem_cons_zero, List.setIfInBounds_toArray, List.set_cons_succ, List.set_cons_zero]
        refine wm_q2 (i := 31) (v := ?v1_130) (some 2) rfl rfl rfl HS2 (fun W HS => ?y1_130) ?_
        case y1_130 => (go_simp; try with_reducible rfl)
        simp only [Act.put, List.getElem_toArray, List.getElem_cons_succ, List.getElem_cons_zero, List.setIfInBounds_toArray, List.set_cons_succ, List.set_cons_zero]
        refine wm_nilN ?_
        clear HS1 HS2
        go_wp2_with (fail)
        refine ret1 rfl (res_tmp rfl) rfl ?_
        exact ⟨rfl, HM.base⟩
      · by_cases c3 : i < 0
        · have e1 : 1 ≤ n := by omega
          have e2 : n ≤ 128 := by omega
          have e3 : decide (0 ≤ i) = false := by simp; omega
          clear h
          go_enter Try.func77, Try.ntmps77
          go_wp2_with (first
            | ((with_reducible refine s_ 1 ?_); go_must (refine wl_box (dst := some 1) (cs := #[.int .i64 n, .int .i64 i, v]) _ _ _ rfl rfl HM ?_; clear HM; intro b1 W HM)))
          replace HM := HM.drew
          refine wp_region_mixN (fun W => Held w W [.blk b1 #[.int .i64 n, .int .i64 i, v] 52]) (fun W => Held w W [.blk b1 #[.int .i64 n, .int .i64 i, v] 52]) (.cons (2, 0) (.cons (2, 1) (.cons (2, 2) (.cons (2, 3) (.cons (2, 4) (.cons (2, 5) (.cons (2, 6) (.cons (2, 7) (.cons (2, 8) (.cons (2, 9) (.cons (2, 10) (.cons (2, 11) (.cons (2, 12) (.cons (2, 13) (.cons (2, 14) (.cons (2, 15) (.cons (2, 16) (.cons (2, 17) (.cons (2, 18) (.cons (2, 19) (.cons (2, 20) (.cons (2, 21) (.cons (2, 22) (.cons (2, 23) (.cons (2, 24) (.cons (2, 25) (.cons (2, 26) (.cons (2, 27) (.cons (0, 28) (.cons (2, 29) (.cons (2, 30) (.cons (2, 31) .nil)))))))))))))))))))))))))))))))) [] (by kernel_rfl) (by kernel_rfl) (by kernel_rfl) (fun W h => Held.weak h (by simp)) (HM.held (by simp)) ?_
          revert HM; generalize World.drew _ = W; intro HM
          have HS1 : Held w W [.blk b1 #[.int .i64 n, .int .i64 i, v] 52] := HM.held (by simp)
          have HS2 : Held w W [.blk b1 #[.int .i64 n, .int .i64 i, v] 52] := HM.held (by simp)
          refine wm_q2 (i := 0) (v := ?v1_131) (some 3) rfl rfl rfl HS2 (fun W HS => ?y1_131) ?_
          case y1_131 => (go_simp; try with_reducible rfl)
          simp only [Act.put, List.getElem_toArray, List.getElem_cons_succ, List.getElem_cons_zero, List.setIfInBounds_toArray, List.set_cons_succ, List.set_cons_zero]
          refine wm_q2 (i := 1) (some 4) rfl rfl rfl HS2 (fun W HS => (by (exact ry_load_cell _ _ _ _ _ _ _ _ HS rfl m0 rfl Try.underlying3 rfl))) ?_
          simp only [Act.put, List.getElem_toArray, List.getElem_cons_succ, List.getElem_cons_zero, List.setIfInBounds_toArray, List.set_cons_succ, List.set_cons_zero]
          refine wm_q2 (i := 2) (v := ?v1_133) (some 5) rfl rfl rfl HS2 (fun W HS => ?y1_133) ?_
          case y1_133 => (go_simp; try with_reducible rfl)
          simp only [Act.put, List.getElem_toArray, List.getElem_cons_succ, List.getElem_cons_zero, List.setIfInBounds_toArray, List.set_cons_succ, List.set_cons_zero]
          refine wm_q2 (i := 3) (v := ?v1_134) (some 6) rfl rfl rfl HS2 (fun W HS => ?y1_134) ?_
          case y1_134 => (go_simp; try with_reducible rfl)
          simp only [Act.put, List.getElem_toArray, List.getElem_cons_succ, List.getElem_cons_zero, List.setIfInBounds_toArray, List.set_cons_succ, List.set_cons_zero]
          ((refine wm_g2 (i := 4) (v := ?v1_135) (some 7) rfl rfl (by rfl) HS2 (fun W HS => ?y1_135) ?_; case y1_135 => (go_simp; try with_reducible rfl)))
          simp only [Act.put, List.getElem_toArray, List.getElem_cons_succ, List.getElem_cons_zero, List.setIfInBounds_toArray, List.set_cons_succ, List.set_cons_zero]
          ((refine wm_g2 (i := 5) (some 8) rfl rfl (by rfl) HS2 (fun W HS => (by (exact ry_load_cell _ _ _ _ _ _ _ _ HS rfl m0 rfl Try.underlying3 rfl))) ?_))
          simp only [Act.put, List.getElem_toArray, List.getElem_cons_succ, List.getElem_cons_zero, List.setIfInBounds_toArray, List.set_cons_succ, List.set_cons_zero]
          ((refine wm_g2 (i := 6) (v := ?v1_137) (some 9) rfl rfl (by rfl) HS2 (fun W HS => ?y1_137) ?_; case y1_137 => (go_simp; try with_reducible rfl)))
          simp only [Act.put, List.getElem_toArray, List.getElem_cons_succ, List.getElem_cons_zero, List.setIfInBounds_toArray, List.set_cons_succ, List.set_cons_zero]
          refine wm_q2 (i := 7) (v := ?v1_138) (some 10) rfl rfl rfl HS2 (fun W HS => ?y1_138) ?_
          case y1_138 => (go_simp; try with_reducible rfl)
          simp only [Act.put, List.getElem_toArray, List.getElem_cons_succ, List.getElem_cons_zero, List.setIfInBounds_toArray, List.set_cons_succ, List.set_cons_zero]
          refine wm_q2 (i := 8) (v := ?v1_139) (some 11) rfl rfl rfl HS2 (fun W HS => ?y1_139) ?_
          case y1_139 => (go_simp; try with_reducible rfl)
          simp only [Act.put, List.getElem_toArray, List.getElem_cons_succ, List.getElem_cons_zero, List.setIfInBounds_toArray, List.set_cons_succ, List.set_cons_zero]
          ((refine wm_g2 (i := 9) (v := ?v1_140) (some 12) rfl rfl (by rfl) HS2 (fun W HS => ?y1_140) ?_; case y1_140 => (go_simp; try with_reducible rfl)))
          simp only [Act.put, List.getElem_toArray, List.getElem_cons_succ, List.getElem_cons_zero, List.setIfInBounds_toArray, List.set_cons_succ, List.set_cons_zero]
          ((refine wm_g2 (i := 10) (some 13) rfl rfl (by rfl) HS2 (fun W HS => (by (exact ry_load_cell _ _ _ _ _ _ _ _ HS rfl m0 rfl Try.underlying3 rfl))) ?_))
          simp only [Act.put, List.getElem_toArray, List.getElem_cons_succ, List.getElem_cons_zero, List.setIfInBounds_toArray, List.set_cons_succ, List.set_cons_zero]
          ((refine wm_g2 (i := 11) (v := ?v1_142) (some 14) rfl rfl (by rfl) HS2 (fun W HS => ?y1_142) ?_; case y1_142 => (go_simp; try with_reducible rfl)))
          simp only [Act.put, List.getElem_toArray, List.getElem_cons_succ, List.getElem_cons_zero, List.setIfInBounds_toArray, List.set_cons_succ, List.set_cons_zero]
          refine wm_q2 (i := 12) (v := ?v1_143) (some 15) rfl rfl rfl HS2 (fun W HS => ?y1_143) ?_
          case y1_143 => (go_simp; try with_reducible rfl)
          simp only [Act.put, List.getElem_toArray, List.getElem_cons_succ, List.getElem_cons_zero, List.setIfInBounds_toArray, List.set_cons_succ, List.set_cons_zero]
          refine wm_q2 (i := 13) (v := ?v1_144) (some 16) rfl rfl rfl HS2 (fun W HS => ?y1_144) ?_
          case y1_144 => (go_simp; try with_reducible rfl)
          simp only [Act.put, List.getElem_toArray, List.getElem_cons_succ, List.getElem_cons_zero, List.setIfInBounds_toArray, List.set_cons_succ, List.set_cons_zero]
          ((refine wm_s2 (i := 14) (some 17) rfl rfl (by rfl) HS2 ?_))
          simp only [Act.put, List.getElem_toArray, List.getElem_cons_succ, List.getElem_cons_zero, List.setIfInBounds_toArray, List.set_cons_succ, List.set_cons_zero]
          ((refine wm_s2 (i := 15) (some 18) rfl rfl (by rfl) HS2 ?_))
          simp only [Act.put, List.getElem_toArray, List.getElem_cons_succ, List.getElem_cons_zero, List.setIfInBounds_toArray, List.set_cons_succ, List.set_cons_zero]
          ((refine wm_s2 (i := 16) (some 19) rfl rfl (by rfl) HS2 ?_))
          simp only [Act.put, List.getElem_toArray, List.getElem_cons_succ, List.getElem_cons_zero, List.setIfInBounds_toArray, List.set_cons_succ, List.set_cons_zero]
          ((refine wm_s2 (i := 17) (some 20) rfl rfl (by rfl) HS2 ?_))
          simp only [Act.put, List.getElem_toArray, List.getElem_cons_succ, List.getElem_cons_zero, List.setIfInBounds_toArray, List.set_cons_succ, List.set_cons_zero]
          ((refine wm_s2 (i := 18) (some 21) rfl rfl (by rfl) HS2 ?_))
          simp only [Act.put, List.getElem_toArray, List.getElem_cons_succ, List.getElem_cons_zero, List.setIfInBounds_toArray, List.set_cons_succ, List.set_cons_zero]
          refine wm_q2 (i := 19) (v := ?v1_150) (some 22) rfl rfl rfl HS2 (fun W HS => ?y1_150) ?_
          case y1_150 => (go_simp; try with_reducible rfl)
          simp only [Act.put, List.getElem_toArray, List.getElem_cons_succ, List.getElem_cons_zero, List.setIfInBounds_toArray, List.set_cons_succ, List.set_cons_zero]
          refine wm_q2 (i := 20) (v := ?v1_151) (some 23) rfl rfl rfl HS2 (fun W HS => ?y1_151) ?_
          case y1_151 => (go_simp; try with_reducible rfl)
          simp only [Act.put, List.getElem_toArray, List.getElem_cons_succ, List.getElem_cons_zero, List.setIfInBounds_toArray, List.set_cons_succ, List.set_cons_zero]
          ((refine wm_s2 (i := 21) (some 24) rfl rfl (by rfl) HS2 ?_))
          simp only [Act.put, List.getElem_toArray, List.getElem_cons_succ, List.getElem_cons_zero, List.setIfInBounds_toArray, List.set_cons_succ, List.set_cons_zero]
          ((refine wm_s2 (i := 22) (some 25) rfl rfl (by rfl) HS2 ?_))
          simp only [Act.put, List.getElem_toArray, List.getElem_cons_succ, List.getElem_cons_zero, List.setIfInBounds_toArray, List.set_cons_succ, List.set_cons_zero]
          ((refine wm_s2 (i := 23) (some 26) rfl rfl (by rfl) HS2 ?_))
          simp only [Act.put, List.getElem_toArray, List.getElem_cons_succ, List.getElem_cons_zero, List.setIfInBounds_toArray, List.set_cons_succ, List.set_cons_zero]
          ((refine wm_s2 (i := 24) (some 27) rfl rfl (by rfl) HS2 ?_))
          simp only [Act.put, List.getElem_toArray, List.getElem_cons_succ, List.getElem_cons_zero, List.setIfInBounds_toArray, List.set_cons_succ, List.set_cons_zero]
          ((refine wm_s2 (i := 25) (some 28) rfl rfl (by rfl) HS2 ?_))
          simp only [Act.put, List.getElem_toArray, List.getElem_cons_succ, List.getElem_cons_zero, List.setIfInBounds_toArray, List.set_cons_succ, List.set_cons_zero]
          ((refine wm_s2 (i := 26) (some 29) rfl rfl (by rfl) HS2 ?_))
          simp only [Act.put, List.getElem_toArray, List.getElem_cons_succ, List.getElem_cons_zero, List.setIfInBounds_toArray, List.set_cons_succ, List.set_cons_zero]
          ((refine wm_s2 (i := 27) (some 30) rfl rfl (by rfl) HS2 ?_))
          simp only [Act.put, List.getElem_toArray, List.getElem_cons_succ, List.getElem_cons_zero, List.setIfInBounds_toArray, List.set_cons_succ, List.set_cons_zero]
          ((refine wm_es0 (i := 28) (some 31) rfl rfl (by rfl) HS1 ?_; simp only [Act.put, List.getElem_toArray, List.getElem_cons_succ, List.getElem_cons_zero, List.setIfInBounds_toArray, List.set_cons_succ, List.set_cons_zero]))
          ((refine wm_s2 (i := 29) (some 32) rfl rfl (by rfl) HS2 ?_))
          simp only [Act.put, List.getElem_toArray, List.getElem_cons_succ, List.getElem_cons_zero, List.setIfInBounds_toArray, List.set_cons_succ, List.set_cons_zero]
          refine wm_q2 (i := 30) (v := ?v1_160) (some 33) rfl rfl rfl HS2 (fun W HS => ?y1_160) ?_
          case y1_160 => (go_simp; try with_reducible rfl)
          simp only [Act.put, List.getElem_toArray, List.getElem_cons_succ, List.getElem_cons_zero, List.setIfInBounds_toArray, List.set_cons_succ, List.set_cons_zero]
          refine wm_q2 (i := 31) (v := ?v1_161) (some 2) rfl rfl rfl HS2 (fun W HS => ?y1_161) ?_
          case y1_161 => (go_simp; try with_reducible rfl)
          simp only [Act.put, List.getElem_toArray, List.getElem_cons_succ, List.getElem_cons_zero, List.setIfInBounds_toArray, List.set_cons_succ, List.set_cons_zero]
          refine wm_nilN ?_
          clear HS1 HS2
          go_wp2_with (fail)
          refine ret1 rfl (res_tmp rfl) rfl ?_
          exact ⟨rfl, HM.base⟩
        · have e1 : 1 ≤ n := by omega
          have e2 : n ≤ 128 := by omega
          have e3 : 0 ≤ i := by omega
          have e4 : decide (i < n) = false := by simp; omega
          clear h
          go_enter Try.func77, Try.ntmps77
          go_wp2_with (first
            | ((with_reducible refine s_ 1 ?_); go_must (refine wl_box (dst := some 1) (cs := #[.int .i64 n, .int .i64 i, v]) _ _ _ rfl rfl HM ?_; clear HM; intro b1 W HM)))
          replace HM := HM.drew
          refine wp_region_mixN (fun W => Held w W [.blk b1 #[.int .i64 n, .int .i64 i, v] 52]) (fun W => Held w W [.blk b1 #[.int .i64 n, .int .i64 i, v] 52]) (.cons (2, 0) (.cons (2, 1) (.cons (2, 2) (.cons (2, 3) (.cons (2, 4) (.cons (2, 5) (.cons (2, 6) (.cons (2, 7) (.cons (2, 8) (.cons (2, 9) (.cons (2, 10) (.cons (2, 11) (.cons (2, 12) (.cons (2, 13) (.cons (2, 14) (.cons (2, 15) (.cons (2, 16) (.cons (2, 17) (.cons (2, 18) (.cons (2, 19) (.cons (2, 20) (.cons (2, 21) (.cons (2, 22) (.cons (2, 23) (.cons (2, 24) (.cons (2, 25) (.cons (2, 26) (.cons (2, 27) (.cons (0, 28) (.cons (2, 29) (.cons (2, 30) (.cons (2, 31) .nil)))))))))))))))))))))))))))))))) [] (by kernel_rfl) (by kernel_rfl) (by kernel_rfl) (fun W h => Held.weak h (by simp)) (HM.held (by simp)) ?_
          revert HM; generalize World.drew _ = W; intro HM
          have HS1 : Held w W [.blk b1 #[.int .i64 n, .int .i64 i, v] 52] := HM.held (by simp)
          have HS2 : Held w W [.blk b1 #[.int .i64 n, .int .i64 i, v] 52] := HM.held (by simp)
          refine wm_q2 (i := 0) (v := ?v1_162) (some 3) rfl rfl rfl HS2 (fun W HS => ?y1_162) ?_
          case y1_162 => (go_simp; try with_reducible rfl)
          simp only [Act.put, List.getElem_toArray, List.getElem_cons_succ, List.getElem_cons_zero, List.setIfInBounds_toArray, List.set_cons_succ, List.set_cons_zero]
          refine wm_q2 (i := 1) (some 4) rfl rfl rfl HS2 (fun W HS => (by (exact ry_load_cell _ _ _ _ _ _ _ _ HS rfl m0 rfl Try.underlying3 rfl))) ?_
          simp only [Act.put, List.getElem_toArray, List.getElem_cons_succ, List.getElem_cons_zero, List.setIfInBounds_toArray, List.set_cons_succ, List.set_cons_zero]
          refine wm_q2 (i := 2) (v := ?v1_164) (some 5) rfl rfl rfl HS2 (fun W HS => ?y1_164) ?_
          case y1_164 => (go_simp; try with_reducible rfl)
          simp only [Act.put, List.getElem_toArray, List.getElem_cons_succ, List.getElem_cons_zero, List.setIfInBounds_toArray, List.set_cons_succ, List.set_cons_zero]
          refine wm_q2 (i := 3) (v := ?v1_165) (some 6) rfl rfl rfl HS2 (fun W HS => ?y1_165) ?_
          case y1_165 => (go_simp; try with_reducible rfl)
          simp only [Act.put, List.getElem_toArray, List.getElem_cons_succ, List.getElem_cons_zero, List.setIfInBounds_toArray, List.set_cons_succ, List.set_cons_zero]
          ((refine wm_g2 (i := 4) (v := ?v1_166) (some 7) rfl rfl (by rfl) HS2 (fun W HS => ?y1_166) ?_; case y1_166 => (go_simp; try with_reducible rfl)))
          simp only [Act.put, List.getElem_toArray, List.getElem_cons_succ, List.getElem_cons_zero, List.setIfInBounds_toArray, List.set_cons_succ, List.set_cons_zero]
          ((refine wm_g2 (i := 5) (some 8) rfl rfl (by rfl) HS2 (fun W HS => (by (exact ry_load_cell _ _ _ _ _ _ _ _ HS rfl m0 rfl Try.underlying3 rfl))) ?_))
          simp only [Act.put, List.getElem_toArray, List.getElem_cons_succ, List.getElem_cons_zero, List.setIfInBounds_toArray, List.set_cons_succ, List.set_cons_zero]
          ((refine wm_g2 (i := 6) (v := ?v1_168) (some 9) rfl rfl (by rfl) HS2 (fun W HS => ?y1_168) ?_; case y1_168 => (go_simp; try with_reducible rfl)))
          simp only [Act.put, List.getElem_toArray, List.getElem_cons_succ, List.getElem_cons_zero, List.setIfInBounds_toArray, List.set_cons_succ, List.set_cons_zero]
          refine wm_q2 (i := 7) (v := ?v1_169) (some 10) rfl rfl rfl HS2 (fun W HS => ?y1_169) ?_
          case y1_169 => (go_simp; try with_reducible rfl)
          simp only [Act.put, List.getElem_toArray, List.getElem_cons_succ, List.getElem_cons_zero, List.setIfInBounds_toArray, List.set_cons_succ, List.set_cons_zero]
          refine wm_q2 (i := 8) (v := ?v1_170) (some 11) rfl rfl rfl HS2 (fun W HS => ?y1_170) ?_
          case y1_170 => (go_simp; try with_reducible rfl)
          simp only [Act.put, List.getElem_toArray, List.getElem_cons_succ, List.getElem_cons_zero, List.setIfInBounds_toArray, List.set_cons_succ, List.set_cons_zero]
          ((refine wm_g2 (i := 9) (v := ?v1_171) (some 12) rfl rfl (by rfl) HS2 (fun W HS => ?y1_171) ?_; case y1_171 => (go_simp; try with_reducible rfl)))
          simp only [Act.put, List.getElem_toArray, List.getElem_cons_succ, List.getElem_cons_zero, List.setIfInBounds_toArray, List.set_cons_succ, List.set_cons_zero]
          ((refine wm_g2 (i := 10) (some 13) rfl rfl (by rfl) HS2 (fun W HS => (by (exact ry_load_cell _ _ _ _ _ _ _ _ HS rfl m0 rfl Try.underlying3 rfl))) ?_))
          simp only [Act.put, List.getElem_toArray, List.getElem_cons_succ, List.getElem_cons_zero, List.setIfInBounds_toArray, List.set_cons_succ, List.set_cons_zero]
          ((refine wm_g2 (i := 11) (v := ?v1_173) (some 14) rfl rfl (by rfl) HS2 (fun W HS => ?y1_173) ?_; case y1_173 => (go_simp; try with_reducible rfl)))
          simp only [Act.put, List.getElem_toArray, List.getElem_cons_succ, List.getElem_cons_zero, List.setIfInBounds_toArray, List.set_cons_succ, List.set_cons_zero]
          refine wm_q2 (i := 12) (v := ?v1_174) (some 15) rfl rfl rfl HS2 (fun W HS => ?y1_174) ?_
          case y1_174 => (go_simp; try with_reducible rfl)
          simp only [Act.put, List.getElem_toArray, List.getElem_cons_succ, List.getElem_cons_zero, List.setIfInBounds_toArray, List.set_cons_succ, List.set_cons_zero]
          refine wm_q2 (i := 13) (v := ?v1_175) (some 16) rfl rfl rfl HS2 (fun W HS => ?y1_175) ?_
          case y1_175 => (go_simp; try with_reducible rfl)
          simp only [Act.put, List.getElem_toArray, List.getElem_cons_succ, List.getElem_cons_zero, List.setIfInBounds_toArray, List.set_cons_succ, List.set_cons_zero]
          ((refine wm_g2 (i := 14) (v := ?v1_176) (some 17) rfl rfl (by rfl) HS2 (fun W HS => ?y1_176) ?_; case y1_176 => (go_simp; try with_reducible rfl)))
          simp only [Act.put, List.getElem_toArray, List.getElem_cons_succ, List.getElem_cons_zero, List.setIfInBounds_toArray, List.set_cons_succ, List.set_cons_zero]
          ((refine wm_g2 (i := 15) (some 18) rfl rfl (by rfl) HS2 (fun W HS => (by (exact ry_load_cell _ _ _ _ _ _ _ _ HS rfl m0 rfl Try.underlying3 rfl))) ?_))
          simp only [Act.put, List.getElem_toArray, List.getElem_cons_succ, List.getElem_cons_zero, List.setIfInBounds_toArray, List.set_cons_succ, List.set_cons_zero]
          ((refine wm_g2 (i := 16) (v := ?v1_178) (some 19) rfl rfl (by rfl) HS2 (fun W HS => ?y1_178) ?_; case y1_178 => (go_simp; try with_reducible rfl)))
          simp only [Act.put, List.getElem_toArray, List.getElem_cons_succ, List.getElem_cons_zero, List.setIfInBounds_toArray, List.set_cons_succ, List.set_cons_zero]
          ((refine wm_g2 (i := 17) (some 20) rfl rfl (by rfl) HS2 (fun W HS => (by (exact ry_load_cell _ _ _ _ _ _ _ _ HS rfl m0 rfl Try.underlying3 rfl))) ?_))
          simp only [Act.put, List.getElem_toArray, List.getElem_cons_succ, List.getElem_cons_zero, List.setIfInBounds_toArray, List.set_cons_succ, List.set_cons_zero]
          ((refine wm_g2 (i := 18) (v := ?v1_180) (some 21) rfl rfl (by rfl) HS2 (fun W HS => ?y1_180) ?_; case y1_180 => (go_simp; try with_reducible rfl)))
          simp only [Act.put, List.getElem_toArray, List.getElem_cons_succ, List.getElem_cons_zero, List.setIfInBounds_toArray, List.set_cons_succ, List.set_cons_zero]
          refine wm_q2 (i := 19) (v := ?v1_181) (some 22) rfl rfl rfl HS2 (fun W HS => ?y1_181) ?_
          case y1_181 => (go_simp; try with_reducible rfl)
          simp only [Act.put, List.getElem_toArray, List.getElem_cons_succ, List.getElem_cons_zero, List.setIfInBounds_toArray, List.set_cons_succ, List.set_cons_zero]
          refine wm_q2 (i := 20) (v := ?v1_182) (some 23) rfl rfl rfl HS2 (fun W HS => ?y1_182) ?_
          case y1_182 => (go_simp; try with_reducible rfl)
          simp only [Act.put, List.getElem_toArray, List.getElem_cons_succ, List.getElem_cons_zero, List.setIfInBounds_toArray, List.set_cons_succ, List.set_cons_zero]
          ((refine wm_s2 (i := 21) (some 24) rfl rfl (by rfl) HS2 ?_))
          simp only [Act.put, List.getElem_toArray, List.getElem_cons_succ, List.getElem_cons_zero, List.setIfInBounds_toArray, List.set_cons_succ, List.set_cons_zero]
          ((refine wm_s2 (i := 22) (some 25) rfl rfl (by rfl) HS2 ?_))
          simp only [Act.put, List.getElem_toArray, List.getElem_cons_succ, List.getElem_cons_zero, List.setIfInBounds_toArray, List.set_cons_succ, List.set_cons_zero]
          ((refine wm_s2 (i := 23) (some 26) rfl rfl (by rfl) HS2 ?_))
          simp only [Act.put, List.getElem_toArray, List.getElem_cons_succ, List.getElem_cons_zero, List.setIfInBounds_toArray, List.set_cons_succ, List.set_cons_zero]
          ((refine wm_s2 (i := 24) (some 27) rfl rfl (by rfl) HS2 ?_))
          simp only [Act.put, List.getElem_toArray, List.getElem_cons_succ, List.getElem_cons_zero, List.setIfInBounds_toArray, List.set_cons_succ, List.set_cons_zero]
          ((refine wm_s2 (i := 25) (some 28) rfl rfl (by rfl) HS2 ?_))
          simp only [Act.put, List.getElem_toArray, List.getElem_cons_succ, List.getElem_cons_zero, List.setIfInBounds_toArray, List.set_cons_succ, List.set_cons_zero]
          ((refine wm_s2 (i := 26) (some 29) rfl rfl (by rfl) HS2 ?_))
          simp only [Act.put, List.getElem_toArray, List.getElem_cons_succ, List.getElem_cons_zero, List.setIfInBounds_toArray, List.set_cons_succ, List.set_cons_zero]
          ((refine wm_s2 (i := 27) (some 30) rfl rfl (by rfl) HS2 ?_))
          simp only [Act.put, List.getElem_toArray, List.getElem_cons_succ, List.getElem_cons_zero, List.setIfInBounds_toArray, List.set_cons_succ, List.set_cons_zero]
          ((refine wm_es0 (i := 28) (some 31) rfl rfl (by rfl) HS1 ?_; simp only [Act.put, List.getElem_toArray, List.getElem_cons_succ, List.getElem_cons_zero, List.setIfInBounds_toArray, List.set_cons_succ, List.set_cons_zero]))
          ((refine wm_s2 (i := 29) (some 32) rfl rfl (by rfl) HS2 ?_))
          simp only [Act.put, List.getElem_toArray, List.getElem_cons_succ, List.getElem_cons_zero, List.setIfInBounds_toArray, List.set_cons_succ, List.set_cons_zero]
          refine wm_q2 (i := 30) (v := ?v1_191) (some 33) rfl rfl rfl HS2 (fun W HS => ?y1_191) ?_
          case y1_191 => (go_simp; try with_reducible rfl)
          simp only [Act.put, List.getElem_toArray, List.getElem_cons_succ, List.getElem_cons_zero, List.setIfInBounds_toArray, List.set_cons_succ, List.set_cons_zero]
          refine wm_q2 (i := 31) (v := ?v1_192) (some 2) rfl rfl rfl HS2 (fun W HS => ?y1_192) ?_
          case y1_192 => (go_simp; try with_reducible rfl)
          simp only [Act.put, List.getElem_toArray, List.getElem_cons_succ, List.getElem_cons_zero, List.setIfInBounds_toArray, List.set_cons_succ, List.set_cons_zero]
          refine wm_nilN ?_
          clear HS1 HS2
          go_wp2_with (fail)
          refine ret1 rfl (res_tmp rfl) rfl ?_
          exact ⟨rfl, HM.base⟩
end Go.Proofs.Ythdekionepfmdaa
