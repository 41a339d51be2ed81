/- Which growths fit: the program's fitsGrowth, the reference's parts and FitsGrowth. -/
import Derived.Test.YthdekionepfmdaaVed
set_option linter.unusedVariables false
set_option linter.unusedSimpArgs false
set_option maxRecDepth 8000
namespace Go.Proofs.Ythdekionepfmdaa
open Go.RowKit

/-- How many entries the path of a growth has. -/
def partsN (n m : Nat) (wh : Bool) : Nat :=
  if h : n ≤ m ∨ n ≤ 1 then (if wh then 0 else 1)
  else if m ≤ splitN n then 1 + partsN (splitN n) m wh
  else 1 + partsN (n - splitN n) (m - splitN n) false
termination_by n
decreasing_by
  · have := splitN_lt n (by omega); omega
  · have := splitN_lt n (by omega); omega
theorem partsN_end (n m : Nat) (wh : Bool) (h : n ≤ m) : partsN n m wh = if wh then 0 else 1 := by rw [partsN, dif_pos (.inl h)]
theorem partsN_lo (n m : Nat) (wh : Bool) (h1 : 1 ≤ m) (h : m < n) (hi : m ≤ splitN n) : partsN n m wh = 1 + partsN (splitN n) m wh := by rw [partsN, dif_neg (by omega), if_pos hi]
theorem partsN_hi (n m : Nat) (wh : Bool) (h1 : 1 ≤ m) (h : m < n) (hi : ¬ m ≤ splitN n) : partsN n m wh = 1 + partsN (n - splitN n) (m - splitN n) false := by rw [partsN, dif_neg (by omega), if_neg hi]
theorem partsN_le : ∀ (n m : Nat) (wh : Bool), partsN n m wh ≤ n + 1 := by
  intro n
  induction n using Nat.strongRecOn with
  | ind n ih =>
    intro m wh
    by_cases h : n ≤ m ∨ n ≤ 1
    · rw [partsN, dif_pos h]; cases wh <;> simp
    · have hs := splitN_lt n (by omega)
      rw [partsN, dif_neg h]
      by_cases hi : m ≤ splitN n
      · rw [if_pos hi]; have := ih (splitN n) (by omega) m wh; omega
      · rw [if_neg hi]; have := ih (n - splitN n) (by omega) (m - splitN n) false; omega
/-- Whether a growth fits. -/
def fitgB (o n : Int) (k : Nat) : Bool := decide (1 ≤ o ∧ o ≤ n ∧ n ≤ 128 ∧ k = partsN n.toNat o.toNat true)
theorem fitgB_no (o n : Int) (k : Nat) (h : ¬ (1 ≤ o ∧ o ≤ n ∧ n ≤ 128)) : fitgB o n k = false := by
  rw [fitgB, decide_eq_false_iff_not]; rintro ⟨h1, h2, h3, _⟩; exact h ⟨h1, h2, h3⟩
theorem fitgB_ok (o n k : Nat) (h1 : 1 ≤ o) (h2 : o ≤ n) (h3 : n ≤ 128) : fitgB o n k = decide (k = partsN n o true) := by
  rw [fitgB]; congr 1; simp; omega
def FitgIs (k n o : Nat) (wh : Bool) : Prop := k = partsN n o wh
theorem FitgIs.eq {k n o : Nat} {wh : Bool} (h : FitgIs k n o wh) : k = partsN n o wh := h
theorem fitgB_is {o n : Int} {k : Nat} (h : fitgB o n k = true) : ∃ a b : Nat, o = a ∧ n = b ∧ 1 ≤ a ∧ a ≤ b ∧ b ≤ 128 ∧ FitgIs k b a true := by
  obtain ⟨h1, h2, h3, h4⟩ := of_decide_eq_true h
  exact ⟨o.toNat, n.toNat, by omega, by omega, by omega, by omega, by omega, h4⟩
def whN (wh : Bool) : Nat := if wh then 0 else 1
def SgInv (n m n' m' s : Nat) (wh : Bool) : Prop := partsN n m true = s + partsN n' m' wh
theorem SgInv.done {n m n' m' s : Nat} {wh : Bool} (h : SgInv n m n' m' s wh) (h1 : n' ≤ m') : partsN n m true = s + whN wh := by rw [show partsN n m true = s + partsN n' m' wh from h, partsN_end n' m' wh h1, whN]

set_option maxHeartbeats 1600000 in
theorem fitsGrowth_c (o n : Int) (v : Value) (path : List Key) (w : World) (hR : RdL encK 16 w v path) :
    Calls Try.prog 81 #[.agg #[.int .i64 o, .int .i64 n, v]] w fun e w' => e = .returned (.bool (fitgB o n path.length)) ∧ Mem w w' [] := by
  have HM := Mem.start w
  by_cases h : 1 ≤ o ∧ o ≤ n ∧ n ≤ 128
  · obtain ⟨a1, a2, a3⟩ := h
    obtain ⟨b, rfl⟩ := Int.eq_ofNat_of_zero_le (show 0 ≤ n by omega)
    obtain ⟨a, rfl⟩ := Int.eq_ofNat_of_zero_le (show 0 ≤ o by omega)
    rw [fitgB_ok a b path.length (by omega) (by omega) (by omega)]
    have d1 : ¬ (a : Int) < 1 := by omega
    have d2 : ¬ (128 : Int) < (b : Int) := by omega
    have d3 : ¬ (b : Int) < (a : Int) := by omega
    go_enter Try.func81, Try.ntmps81
    go_wp2_with (first
      | ((with_reducible refine gd_ _ ?_); refine wl_guard (by rfl) ?_)
      | ((with_reducible refine s_ 1 ?_); go_must (refine wl_box (dst := some 1) (cs := #[.int .i64 a, .int .i64 b, v]) _ _ _ rfl rfl HM ?_; clear HM; intro b1 W HM))
      | ((with_reducible refine ld_ 3 ?_); go_must (refine wl_load_cell _ _ _ _ _ _ _ _ rfl HM (by repeat first | exact List.mem_cons_self .. | refine List.mem_cons_of_mem _ ?_) (by rfl) Try.underlying3 rfl ?_)))
    replace HM := HM.drew
    refine wp_region_mixN (fun W => Held w W [.blk b1 #[.int .i64 a, .int .i64 b, v] 59]) (fun W => Held w W [.blk b1 #[.int .i64 a, .int .i64 b, v] 59]) (.cons (2, 0) (.cons (2, 1) (.cons (2, 2) (.cons (2, 3) (.cons (2, 4) (.cons (2, 5) .nil)))))) [] (by kernel_rfl) (by kernel_rfl) (by kernel_rfl) (fun W h => Held.weak h (by simp)) (HM.held (by simp)) ?_
    revert HM; generalize World.drew _ = W; intro HM
    have HS1 : Held w W [.blk b1 #[.int .i64 a, .int .i64 b, v] 59] := HM.held (by simp)
    have HS2 : Held w W [.blk b1 #[.int .i64 a, .int .i64 b, v] 59] := HM.held (by simp)
    refine wm_q2 (i := 0) (v := ?v4_1) (some 23) rfl rfl rfl HS2 (fun W HS => ?y4_1) ?_
    case y4_1 => (go_simp; try with_reducible rfl)
    simp only [Act.put, List.getElem_toArray, List.getElem_cons_succ, List.getElem_cons_zero, List.setIfInBounds_toArray, List.set_cons_succ, List.set_cons_zero]
    refine wm_q2 (i := 1) (some 24) rfl rfl rfl HS2 (fun W HS => (by (exact ry_load_cell _ _ _ _ _ _ _ _ HS rfl m0 rfl Try.underlying3 rfl))) ?_
    simp only [Act.put, List.getElem_toArray, List.getElem_cons_succ, List.getElem_cons_zero, List.setIfInBounds_toArray, List.set_cons_succ, List.set_cons_zero]
    refine wm_q2 (i := 2) (v := ?v4_3) (some 25) rfl rfl rfl HS2 (fun W HS => ?y4_3) ?_
    case y4_3 => (go_simp; try with_reducible rfl)
    simp only [Act.put, List.getElem_toArray, List.getElem_cons_succ, List.getElem_cons_zero, List.setIfInBounds_toArray, List.set_cons_succ, List.set_cons_zero]
    refine wm_q2 (i := 3) (some 26) rfl rfl rfl HS2 (fun W HS => (by (exact ry_load_cell _ _ _ _ _ _ _ _ HS rfl m0 rfl Try.underlying3 rfl))) ?_
    simp only [Act.put, List.getElem_toArray, List.getElem_cons_succ, List.getElem_cons_zero, List.setIfInBounds_toArray, List.set_cons_succ, List.set_cons_zero]
    refine wm_q2 (i := 4) (v := ?v4_5) (some 5) rfl rfl rfl HS2 (fun W HS => ?y4_5) ?_
    case y4_5 => (go_simp; try with_reducible rfl)
    simp only [Act.put, List.getElem_toArray, List.getElem_cons_succ, List.getElem_cons_zero, List.setIfInBounds_toArray, List.set_cons_succ, List.set_cons_zero]
    refine wm_q2 (i := 5) (v := ?v4_6) (some 6) rfl rfl rfl HS2 (fun W HS => ?y4_6) ?_
    case y4_6 => (go_simp; try with_reducible rfl)
    simp only [Act.put, List.getElem_toArray, List.getElem_cons_succ, List.getElem_cons_zero, List.setIfInBounds_toArray, List.set_cons_succ, List.set_cons_zero]
    refine wm_nilN ?_
    clear HS1 HS2
    go_wp2_with (fail)
    go_loopw [3, 4, 5, 6] (fun sv qv nv iv wr => ∃ (n' m' s : Nat) (wh : Bool), 1 ≤ m' ∧ m' ≤ n' ∧ n' ≤ 128 ∧ SgInv b a n' m' s wh ∧ sv = .int .i64 s ∧ qv = .int .i64 (whN wh) ∧ nv = .int .i64 n' ∧ iv = .int .i64 m' ∧ Mem w wr [.blk b1 #[.int .i64 a, .int .i64 b, v] 59])
      (fun _ _ nv _ _ => (intOf nv).toNat)
    case atStart => exact ⟨b, a, 0, true, by omega, by omega, by omega, by simp [SgInv], rfl, rfl, rfl, rfl, HM⟩
    case round =>
      clear HM
      obtain ⟨n', m', s, wh, hm1, hm2, hn', hP, rfl, rfl, rfl, rfl, HM⟩ := hrel
      have hs1 : s ≤ 129 := by
        have e1 : partsN b a true = s + partsN n' m' wh := hP
        have e2 := partsN_le b a true
        omega
      by_cases hlt : m' < n'
      · have hb : (m' : Int) < (n' : Int) := by omega
        have hs := splitN_lt n' (by omega)
        by_cases hlo : m' ≤ splitN n'
        · have hb2 : (m' : Int) ≤ ((splitN n' : Nat) : Int) := by omega
          have hP2 : SgInv b a (splitN n') m' (s + 1) wh := by
            have e1 : partsN b a true = s + partsN n' m' wh := hP
            rw [SgInv, e1, partsN_lo n' m' wh (by omega) (by omega) hlo]; omega
          go_wp2_with (first
            | (go_at_call 72; go_must (((with_reducible refine (split_c _ (by omega) (by omega) _).mono ?_)); rintro e W ⟨rfl, HM'⟩; replace HM := HM.keep HM'.below; clear HM')))
          go_roundw
          case rel => exact ⟨_, m', s + 1, wh, by omega, by omega, by omega, hP2, by go_num, rfl, rfl, rfl, HM⟩
          case measure => simp [intOf]; omega
        · have hb2 : ¬ (m' : Int) ≤ ((splitN n' : Nat) : Int) := by omega
          have hP2 : SgInv b a (n' - splitN n') (m' - splitN n') (s + 1) false := by
            have e1 : partsN b a true = s + partsN n' m' wh := hP
            rw [SgInv, e1, partsN_hi n' m' wh (by omega) (by omega) hlo]; omega
          have hw1 : IntKind.i64.wrap ((n' : Int) - ((splitN n' : Nat) : Int)) = ((n' - splitN n' : Nat) : Int) := by rw [IntKind.wrap_i64]; omega
          have hw2 : IntKind.i64.wrap ((m' : Int) - ((splitN n' : Nat) : Int)) = ((m' - splitN n' : Nat) : Int) := by rw [IntKind.wrap_i64]; omega
          go_wp2_with (first
            | (go_at_call 72; go_must (((with_reducible refine (split_c _ (by omega) (by omega) _).mono ?_)); rintro e W ⟨rfl, HM'⟩; replace HM := HM.keep HM'.below; clear HM')))
          go_roundw
          case rel => exact ⟨_, _, s + 1, false, by omega, by omega, by omega, hP2, by go_num, rfl, rfl, rfl, HM⟩
          case measure => simp [intOf]; omega
      · have hb : ¬ (m' : Int) < (n' : Int) := by omega
        have hwle : whN wh ≤ 1 := by cases wh <;> decide
        have hww : IntKind.i64.wrap ((s : Int) + ((whN wh : Nat) : Int)) = ((s + whN wh : Nat) : Int) := by rw [IntKind.wrap_i64]; omega
        by_cases hl : path.length = s + whN wh
        · have hb5 : (path.length : Int) = ((s + whN wh : Nat) : Int) := by omega
          go_wp2_with (first
            | ((with_reducible refine s_ 46 ?_); go_must ((refine wl_len (dst := some 46) _ _ _ _ 23 Try.underlying40 rfl (hR.mem HM) ?_)))
            | ((with_reducible refine ld_ 40 ?_); go_must (refine wl_load_cell _ _ _ _ _ _ _ _ rfl HM (by repeat first | exact List.mem_cons_self .. | refine List.mem_cons_of_mem _ ?_) (by rfl) Try.underlying40 rfl ?_)))
          refine ret1 rfl (res_tmp rfl) rfl ?_
          exact ⟨by rw [hP.done (by omega)]; simp [hl], HM.base⟩
        · have hb5 : ¬ (path.length : Int) = ((s + whN wh : Nat) : Int) := by omega
          go_wp2_with (first
            | ((with_reducible refine s_ 46 ?_); go_must ((refine wl_len (dst := some 46) _ _ _ _ 23 Try.underlying40 rfl (hR.mem HM) ?_)))
            | ((with_reducible refine ld_ 40 ?_); go_must (refine wl_load_cell _ _ _ _ _ _ _ _ rfl HM (by repeat first | exact List.mem_cons_self .. | refine List.mem_cons_of_mem _ ?_) (by rfl) Try.underlying40 rfl ?_)))
          refine ret1 rfl (res_tmp rfl) rfl ?_
          exact ⟨by rw [hP.done (by omega)]; simp [hl]; omega, HM.base⟩
  · rw [fitgB_no o n path.length h]
    by_cases c1 : o < 1
    · clear h
      go_enter Try.func81, Try.ntmps81
      go_wp2_with (first
        | ((with_reducible refine s_ 1 ?_); go_must (refine wl_box (dst := some 1) (cs := #[.int .i64 o, .int .i64 n, v]) _ _ _ rfl rfl HM ?_; clear HM; intro b1 W HM))
        | ((with_reducible refine ld_ 3 ?_); go_must (refine wl_load_cell _ _ _ _ _ _ _ _ rfl HM (by repeat first | exact List.mem_cons_self .. | refine List.mem_cons_of_mem _ ?_) (by rfl) Try.underlying3 rfl ?_)))
      refine ret1 rfl (res_tmp rfl) rfl ?_
      exact ⟨rfl, HM.base⟩
    · by_cases c2 : n < o
      · clear h
        go_enter Try.func81, Try.ntmps81
        go_wp2_with (first
          | ((with_reducible refine gd_ _ ?_); refine wl_guard (by rfl) ?_)
          | ((with_reducible refine s_ 1 ?_); go_must (refine wl_box (dst := some 1) (cs := #[.int .i64 o, .int .i64 n, v]) _ _ _ rfl rfl HM ?_; clear HM; intro b1 W HM))
          | ((with_reducible refine ld_ 3 ?_); go_must (refine wl_load_cell _ _ _ _ _ _ _ _ rfl HM (by repeat first | exact List.mem_cons_self .. | refine List.mem_cons_of_mem _ ?_) (by rfl) Try.underlying3 rfl ?_)))
        refine ret1 rfl (res_tmp rfl) rfl ?_
        exact ⟨rfl, HM.base⟩
      · have c3 : 128 < n := by omega
        clear h
        go_enter Try.func81, Try.ntmps81
        go_wp2_with (first
          | ((with_reducible refine gd_ _ ?_); refine wl_guard (by rfl) ?_)
          | ((with_reducible refine s_ 1 ?_); go_must (refine wl_box (dst := some 1) (cs := #[.int .i64 o, .int .i64 n, v]) _ _ _ rfl rfl HM ?_; clear HM; intro b1 W HM))
          | ((with_reducible refine ld_ 3 ?_); go_must (refine wl_load_cell _ _ _ _ _ _ _ _ rfl HM (by repeat first | exact List.mem_cons_self .. | refine List.mem_cons_of_mem _ ?_) (by rfl) Try.underlying3 rfl ?_)))
        refine ret1 rfl (res_tmp rfl) rfl ?_
        exact ⟨rfl, HM.base⟩

set_option maxHeartbeats 800000 in
theorem parts_c : ∀ (n m : Nat) (wh : Bool) (w : World), 1 ≤ m → m ≤ n → n ≤ 128 →
    Calls Try.prog 135 #[.int .i64 (n : Int), .int .i64 (m : Int), .bool wh] w fun e w' => e = .returned (.int .i64 (partsN n m wh : Nat)) ∧ Mem w w' [] := by
  intro n
  induction n using Nat.strongRecOn with
  | ind n ih =>
    intro m wh w h1 hm hn
    have HM := Mem.start w
    by_cases hone : m = n
    · have hb : (m : Int) = (n : Int) := by omega
      clear ih
      rw [partsN_end n m wh (by omega)]
      cases wh with
      | true =>
        go_enter Try.func135, Try.ntmps135
        go_wp2_with (fail)
        refine ret1 rfl (res_tmp rfl) rfl ?_
        exact ⟨rfl, HM⟩
      | false =>
        go_enter Try.func135, Try.ntmps135
        go_wp2_with (fail)
        refine ret1 rfl (res_tmp rfl) rfl ?_
        exact ⟨rfl, HM⟩
    · have hb : ¬ (m : Int) = (n : Int) := by omega
      have hs := splitN_lt n (by omega)
      by_cases hlo : m ≤ splitN n
      · have hb2 : (m : Int) ≤ ((splitN n : Nat) : Int) := by omega
        have hle := partsN_le (splitN n) m wh
        have hw : IntKind.i64.wrap (1 + ((partsN (splitN n) m wh : Nat) : Int)) = ((partsN n m wh : Nat) : Int) := by rw [IntKind.wrap_i64, partsN_lo n m wh (by omega) (by omega) hlo]; omega
        go_enter Try.func135, Try.ntmps135
        go_wp2_with (first
          | (go_at_call 127; go_must (((with_reducible refine (rsplit_c _ (by omega) (by omega) _).mono ?_)); rintro e W ⟨rfl, HM'⟩; replace HM := HM.keep HM'.below; clear HM'))
          | (go_at_call 135; go_must (((with_reducible refine (ih (splitN n) (by omega) m wh _ (by omega) (by omega) (by omega)).mono ?_)); rintro e W ⟨rfl, HM'⟩; replace HM := HM.keep HM'.below; clear HM')))
        refine ret1 rfl (res_tmp rfl) rfl ?_
        exact ⟨rfl, HM⟩
      · have hb2 : ¬ (m : Int) ≤ ((splitN n : Nat) : Int) := by omega
        have hle := partsN_le (n - splitN n) (m - splitN n) false
        have hw1 : IntKind.i64.wrap ((n : Int) - ((splitN n : Nat) : Int)) = ((n - splitN n : Nat) : Int) := by rw [IntKind.wrap_i64]; omega
        have hw2 : IntKind.i64.wrap ((m : Int) - ((splitN n : Nat) : Int)) = ((m - splitN n : Nat) : Int) := by rw [IntKind.wrap_i64]; omega
        have hw : IntKind.i64.wrap (1 + ((partsN (n - splitN n) (m - splitN n) false : Nat) : Int)) = ((partsN n m wh : Nat) : Int) := by rw [IntKind.wrap_i64, partsN_hi n m wh (by omega) (by omega) hlo]; omega
        go_enter Try.func135, Try.ntmps135
        go_wp2_with (first
          | (go_at_call 127; go_must (((with_reducible refine (rsplit_c _ (by omega) (by omega) _).mono ?_)); rintro e W ⟨rfl, HM'⟩; replace HM := HM.keep HM'.below; clear HM'))
          | (go_at_call 135; go_must (((with_reducible refine (ih (n - splitN n) (by omega) (m - splitN n) false _ (by omega) (by omega) (by omega)).mono ?_)); rintro e W ⟨rfl, HM'⟩; replace HM := HM.keep HM'.below; clear HM')))
        refine ret1 rfl (res_tmp rfl) rfl ?_
        exact ⟨rfl, HM⟩

set_option maxHeartbeats 1600000 in
theorem rFitsGrowth_c (o n : Int) (v : Value) (path : List Key) (w : World) (hR : RdL encK 16 w v path) :
    Calls Try.prog 83 #[.agg #[.int .i64 o, .int .i64 n, v]] w fun e w' => e = .returned (.bool (fitgB o n path.length)) ∧ Mem w w' [] := by
  have HM := Mem.start w
  by_cases h : 1 ≤ o ∧ o ≤ n ∧ n ≤ 128
  · obtain ⟨a1, a2, a3⟩ := h
    obtain ⟨b, rfl⟩ := Int.eq_ofNat_of_zero_le (show 0 ≤ n by omega)
    obtain ⟨a, rfl⟩ := Int.eq_ofNat_of_zero_le (show 0 ≤ o by omega)
    rw [fitgB_ok a b path.length (by omega) (by omega) (by omega)]
    by_cases hl : path.length = partsN b a true
    · have hb5 : (path.length : Int) = ((partsN b a true : Nat) : Int) := by omega
      go_enter Try.func83, Try.ntmps83
      go_wp2_with (first
        | ((with_reducible refine s_ 1 ?_); go_must (refine wl_box (dst := some 1) (cs := #[.int .i64 a, .int .i64 b, v]) _ _ _ rfl rfl HM ?_; clear HM; intro b1 W HM)))
      replace HM := HM.drew
      refine wp_region_mixN (fun W => Held w W [.blk b1 #[.int .i64 a, .int .i64 b, v] 59]) (fun W => Held w W [.blk b1 #[.int .i64 a, .int .i64 b, v] 59]) (.cons (2, 0) (.cons (2, 1) (.cons (2, 2) (.cons (2, 3) (.cons (2, 4) (.cons (2, 5) (.cons (2, 6) (.cons (2, 7) (.cons (2, 8) (.cons (2, 9) (.cons (2, 10) (.cons (2, 11) (.cons (2, 12) (.cons (2, 13) (.cons (2, 14) (.cons (2, 15) (.cons (2, 16) (.cons (2, 17) (.cons (2, 18) (.cons (2, 19) (.cons (2, 20) (.cons (2, 21) (.cons (2, 22) (.cons (0, 23) (.cons (2, 24) (.cons (2, 25) (.cons (2, 26) .nil))))))))))))))))))))))))))) [] (by kernel_rfl) (by kernel_rfl) (by kernel_rfl) (fun W h => Held.weak h (by simp)) (HM.held (by simp)) ?_
      revert HM; generalize World.drew _ = W; intro HM
      have HS1 : Held w W [.blk b1 #[.int .i64 a, .int .i64 b, v] 59] := HM.held (by simp)
      have HS2 : Held w W [.blk b1 #[.int .i64 a, .int .i64 b, v] 59] := HM.held (by simp)
      refine wm_q2 (i := 0) (v := ?v1_7) (some 3) rfl rfl rfl HS2 (fun W HS => ?y1_7) ?_
      case y1_7 => (go_simp; try with_reducible rfl)
      simp only [Act.put, List.getElem_toArray, List.getElem_cons_succ, List.getElem_cons_zero, List.setIfInBounds_toArray, List.set_cons_succ, List.set_cons_zero]
      refine wm_q2 (i := 1) (some 4) rfl rfl rfl HS2 (fun W HS => (by (exact ry_load_cell _ _ _ _ _ _ _ _ HS rfl m0 rfl Try.underlying3 rfl))) ?_
      simp only [Act.put, List.getElem_toArray, List.getElem_cons_succ, List.getElem_cons_zero, List.setIfInBounds_toArray, List.set_cons_succ, List.set_cons_zero]
      refine wm_q2 (i := 2) (v := ?v1_9) (some 5) rfl rfl rfl HS2 (fun W HS => ?y1_9) ?_
      case y1_9 => (go_simp; try with_reducible rfl)
      simp only [Act.put, List.getElem_toArray, List.getElem_cons_succ, List.getElem_cons_zero, List.setIfInBounds_toArray, List.set_cons_succ, List.set_cons_zero]
      refine wm_q2 (i := 3) (v := ?v1_10) (some 6) rfl rfl rfl HS2 (fun W HS => ?y1_10) ?_
      case y1_10 => (go_simp; try with_reducible rfl)
      simp only [Act.put, List.getElem_toArray, List.getElem_cons_succ, List.getElem_cons_zero, List.setIfInBounds_toArray, List.set_cons_succ, List.set_cons_zero]
      ((refine wm_g2 (i := 4) (v := ?v1_11) (some 7) rfl rfl (by rfl) HS2 (fun W HS => ?y1_11) ?_; case y1_11 => (go_simp; try with_reducible rfl)))
      simp only [Act.put, List.getElem_toArray, List.getElem_cons_succ, List.getElem_cons_zero, List.setIfInBounds_toArray, List.set_cons_succ, List.set_cons_zero]
      ((refine wm_g2 (i := 5) (some 8) rfl rfl (by rfl) HS2 (fun W HS => (by (exact ry_load_cell _ _ _ _ _ _ _ _ HS rfl m0 rfl Try.underlying3 rfl))) ?_))
      simp only [Act.put, List.getElem_toArray, List.getElem_cons_succ, List.getElem_cons_zero, List.setIfInBounds_toArray, List.set_cons_succ, List.set_cons_zero]
      ((refine wm_g2 (i := 6) (v := ?v1_13) (some 9) rfl rfl (by rfl) HS2 (fun W HS => ?y1_13) ?_; case y1_13 => (go_simp; try with_reducible rfl)))
      simp only [Act.put, List.getElem_toArray, List.getElem_cons_succ, List.getElem_cons_zero, List.setIfInBounds_toArray, List.set_cons_succ, List.set_cons_zero]
      ((refine wm_g2 (i := 7) (some 10) rfl rfl (by rfl) HS2 (fun W HS => (by (exact ry_load_cell _ _ _ _ _ _ _ _ HS rfl m0 rfl Try.underlying3 rfl))) ?_))
      simp only [Act.put, List.getElem_toArray, List.getElem_cons_succ, List.getElem_cons_zero, List.setIfInBounds_toArray, List.set_cons_succ, List.set_cons_zero]
      ((refine wm_g2 (i := 8) (v := ?v1_15) (some 11) rfl rfl (by rfl) HS2 (fun W HS => ?y1_15) ?_; case y1_15 => (go_simp; try with_reducible rfl)))
      simp only [Act.put, List.getElem_toArray, List.getElem_cons_succ, List.getElem_cons_zero, List.setIfInBounds_toArray, List.set_cons_succ, List.set_cons_zero]
      refine wm_q2 (i := 9) (v := ?v1_16) (some 12) rfl rfl rfl HS2 (fun W HS => ?y1_16) ?_
      case y1_16 => (go_simp; try with_reducible rfl)
      simp only [Act.put, List.getElem_toArray, List.getElem_cons_succ, List.getElem_cons_zero, List.setIfInBounds_toArray, List.set_cons_succ, List.set_cons_zero]
      refine wm_q2 (i := 10) (v := ?v1_17) (some 13) rfl rfl rfl HS2 (fun W HS => ?y1_17) ?_
      case y1_17 => (go_simp; try with_reducible rfl)
      simp only [Act.put, List.getElem_toArray, List.getElem_cons_succ, List.getElem_cons_zero, List.setIfInBounds_toArray, List.set_cons_succ, List.set_cons_zero]
      ((refine wm_g2 (i := 11) (v := ?v1_18) (some 14) rfl rfl (by rfl) HS2 (fun W HS => ?y1_18) ?_; case y1_18 => (go_simp; try with_reducible rfl)))
      simp only [Act.put, List.getElem_toArray, List.getElem_cons_succ, List.getElem_cons_zero, List.setIfInBounds_toArray, List.set_cons_succ, List.set_cons_zero]
      ((refine wm_g2 (i := 12) (some 15) rfl rfl (by rfl) HS2 (fun W HS => (by (exact ry_load_cell _ _ _ _ _ _ _ _ HS rfl m0 rfl Try.underlying3 rfl))) ?_))
      simp only [Act.put, List.getElem_toArray, List.getElem_cons_succ, List.getElem_cons_zero, List.setIfInBounds_toArray, List.set_cons_succ, List.set_cons_zero]
      ((refine wm_g2 (i := 13) (v := ?v1_20) (some 16) rfl rfl (by rfl) HS2 (fun W HS => ?y1_20) ?_; case y1_20 => (go_simp; try with_reducible rfl)))
      simp only [Act.put, List.getElem_toArray, List.getElem_cons_succ, List.getElem_cons_zero, List.setIfInBounds_toArray, List.set_cons_succ, List.set_cons_zero]
      refine wm_q2 (i := 14) (v := ?v1_21) (some 17) rfl rfl rfl HS2 (fun W HS => ?y1_21) ?_
      case y1_21 => (go_simp; try with_reducible rfl)
      simp only [Act.put, List.getElem_toArray, List.getElem_cons_succ, List.getElem_cons_zero, List.setIfInBounds_toArray, List.set_cons_succ, List.set_cons_zero]
      refine wm_q2 (i := 15) (v := ?v1_22) (some 18) rfl rfl rfl HS2 (fun W HS => ?y1_22) ?_
      case y1_22 => (go_simp; try with_reducible rfl)
      simp only [Act.put, List.getElem_toArray, List.getElem_cons_succ, List.getElem_cons_zero, List.setIfInBounds_toArray, List.set_cons_succ, List.set_cons_zero]
      ((refine wm_g2 (i := 16) (v := ?v1_23) (some 19) rfl rfl (by rfl) HS2 (fun W HS => ?y1_23) ?_; case y1_23 => (go_simp; try with_reducible rfl)))
      simp only [Act.put, List.getElem_toArray, List.getElem_cons_succ, List.getElem_cons_zero, List.setIfInBounds_toArray, List.set_cons_succ, List.set_cons_zero]
      ((refine wm_g2 (i := 17) (some 20) rfl rfl (by rfl) HS2 (fun W HS => (by (exact ry_load_cell _ _ _ _ _ _ _ _ HS rfl m0 rfl Try.underlying40 rfl))) ?_))
      simp only [Act.put, List.getElem_toArray, List.getElem_cons_succ, List.getElem_cons_zero, List.setIfInBounds_toArray, List.set_cons_succ, List.set_cons_zero]
      ((refine wm_g2 (i := 18) (some 21) rfl rfl (by rfl) HS2 (fun W HS => (by ((refine ry_len _ _ _ _ 23 Try.underlying40 (hR.held HS) ?_; rfl)))) ?_))
      simp only [Act.put, List.getElem_toArray, List.getElem_cons_succ, List.getElem_cons_zero, List.setIfInBounds_toArray, List.set_cons_succ, List.set_cons_zero]
      ((refine wm_g2 (i := 19) (v := ?v1_26) (some 22) rfl rfl (by rfl) HS2 (fun W HS => ?y1_26) ?_; case y1_26 => (go_simp; try with_reducible rfl)))
      simp only [Act.put, List.getElem_toArray, List.getElem_cons_succ, List.getElem_cons_zero, List.setIfInBounds_toArray, List.set_cons_succ, List.set_cons_zero]
      ((refine wm_g2 (i := 20) (some 23) rfl rfl (by rfl) HS2 (fun W HS => (by (exact ry_load_cell _ _ _ _ _ _ _ _ HS rfl m0 rfl Try.underlying3 rfl))) ?_))
      simp only [Act.put, List.getElem_toArray, List.getElem_cons_succ, List.getElem_cons_zero, List.setIfInBounds_toArray, List.set_cons_succ, List.set_cons_zero]
      ((refine wm_g2 (i := 21) (v := ?v1_28) (some 24) rfl rfl (by rfl) HS2 (fun W HS => ?y1_28) ?_; case y1_28 => (go_simp; try with_reducible rfl)))
      simp only [Act.put, List.getElem_toArray, List.getElem_cons_succ, List.getElem_cons_zero, List.setIfInBounds_toArray, List.set_cons_succ, List.set_cons_zero]
      ((refine wm_g2 (i := 22) (some 25) rfl rfl (by rfl) HS2 (fun W HS => (by (exact ry_load_cell _ _ _ _ _ _ _ _ HS rfl m0 rfl Try.underlying3 rfl))) ?_))
      simp only [Act.put, List.getElem_toArray, List.getElem_cons_succ, List.getElem_cons_zero, List.setIfInBounds_toArray, List.set_cons_succ, List.set_cons_zero]
      ((refine wm_e0 (i := 23) rfl ?_; go_wp2_with (first | ((with_reducible refine gd_ _ ?_); refine wl_guard (by rfl) ?_) | (go_at_call 135; go_must (((with_reducible refine (parts_c b a true _ (by omega) (by omega) (by omega)).mono ?_)); rintro e W ⟨rfl, HM'⟩; replace HM := HM.keep HM'.below; clear HM'))); refine ⟨HM.held (by simp), ?_⟩; clear HS1 HS2; have HS1 : Held w W [.blk b1 #[.int .i64 a, .int .i64 b, v] 59] := HM.held (by simp); have HS2 : Held w W [.blk b1 #[.int .i64 a, .int .i64 b, v] 59] := HM.held (by simp)))
      ((refine wm_g2 (i := 24) (v := ?v1_30) (some 27) rfl rfl (by rfl) HS2 (fun W HS => ?y1_30) ?_; case y1_30 => (go_simp; try with_reducible rfl)))
      simp only [Act.put, List.getElem_toArray, List.getElem_cons_succ, List.getElem_cons_zero, List.setIfInBounds_toArray, List.set_cons_succ, List.set_cons_zero]
      refine wm_q2 (i := 25) (v := ?v1_31) (some 28) rfl rfl rfl HS2 (fun W HS => ?y1_31) ?_
      case y1_31 => (go_simp; try with_reducible rfl)
      simp only [Act.put, List.getElem_toArray, List.getElem_cons_succ, List.getElem_cons_zero, List.setIfInBounds_toArray, List.set_cons_succ, List.set_cons_zero]
      refine wm_q2 (i := 26) (v := ?v1_32) (some 2) rfl rfl rfl HS2 (fun W HS => ?y1_32) ?_
      case y1_32 => (go_simp; try with_reducible rfl)
      simp only [Act.put, List.getElem_toArray, List.getElem_cons_succ, List.getElem_cons_zero, List.setIfInBounds_toArray, List.set_cons_succ, List.set_cons_zero]
      refine wm_nilN ?_
      clear HS1 HS2
      go_wp2_with (fail)
      refine ret1 rfl (res_tmp rfl) rfl ?_
      exact ⟨by simp [hl], HM.base⟩
    · have hb5 : ¬ (path.length : Int) = ((partsN b a true : Nat) : Int) := by omega
      go_enter Try.func83, Try.ntmps83
      go_wp2_with (first
        | ((with_reducible refine s_ 1 ?_); go_must (refine wl_box (dst := some 1) (cs := #[.int .i64 a, .int .i64 b, v]) _ _ _ rfl rfl HM ?_; clear HM; intro b1 W HM)))
      replace HM := HM.drew
      refine wp_region_mixN (fun W => Held w W [.blk b1 #[.int .i64 a, .int .i64 b, v] 59]) (fun W => Held w W [.blk b1 #[.int .i64 a, .int .i64 b, v] 59]) (.cons (2, 0) (.cons (2, 1) (.cons (2, 2) (.cons (2, 3) (.cons (2, 4) (.cons (2, 5) (.cons (2, 6) (.cons (2, 7) (.cons (2, 8) (.cons (2, 9) (.cons (2, 10) (.cons (2, 11) (.cons (2, 12) (.cons (2, 13) (.cons (2, 14) (.cons (2, 15) (.cons (2, 16) (.cons (2, 17) (.cons (2, 18) (.cons (2, 19) (.cons (2, 20) (.cons (2, 21) (.cons (2, 22) (.cons (0, 23) (.cons (2, 24) (.cons (2, 25) (.cons (2, 26) .nil))))))))))))))))))))))))))) [] (by kernel_rfl) (by kernel_rfl) (by kernel_rfl) (fun W h => Held.weak h (by simp)) (HM.held (by simp)) ?_
      revert HM; generalize World.drew _ = W; intro HM
      have HS1 : Held w W [.blk b1 #[.int .i64 a, .int .i64 b, v] 59] := HM.held (by simp)
      have HS2 : Held w W [.blk b1 #[.int .i64 a, .int .i64 b, v] 59] := HM.held (by simp)
      refine wm_q2 (i := 0) (v := ?v1_33) (some 3) rfl rfl rfl HS2 (fun W HS => ?y1_33) ?_
      case y1_33 => (go_simp; try with_reducible rfl)
      simp only [Act.put, List.getElem_toArray, List.getElem_cons_succ, List.getElem_cons_zero, List.setIfInBounds_toArray, List.set_cons_succ, List.set_cons_zero]
      refine wm_q2 (i := 1) (some 4) rfl rfl rfl HS2 (fun W HS => (by (exact ry_load_cell _ _ _ _ _ _ _ _ HS rfl m0 rfl Try.underlying3 rfl))) ?_
      simp only [Act.put, List.getElem_toArray, List.getElem_cons_succ, List.getElem_cons_zero, List.setIfInBounds_toArray, List.set_cons_succ, List.set_cons_zero]
      refine wm_q2 (i := 2) (v := ?v1_35) (some 5) rfl rfl rfl HS2 (fun W HS => ?y1_35) ?_
      case y1_35 => (go_simp; try with_reducible rfl)
      simp only [Act.put, List.getElem_toArray, List.getElem_cons_succ, List.getElem_cons_zero, List.setIfInBounds_toArray, List.set_cons_succ, List.set_cons_zero]
      refine wm_q2 (i := 3) (v := ?v1_36) (some 6) rfl rfl rfl HS2 (fun W HS => ?y1_36) ?_
      case y1_36 => (go_simp; try with_reducible rfl)
      simp only [Act.put, List.getElem_toArray, List.getElem_cons_succ, List.getElem_cons_zero, List.setIfInBounds_toArray, List.set_cons_succ, List.set_cons_zero]
      ((refine wm_g2 (i := 4) (v := ?v1_37) (some 7) rfl rfl (by rfl) HS2 (fun W HS => ?y1_37) ?_; case y1_37 => (go_simp; try with_reducible rfl)))
      simp only [Act.put, List.getElem_toArray, List.getElem_cons_succ, List.getElem_cons_zero, List.setIfInBounds_toArray, List.set_cons_succ, List.set_cons_zero]
      ((refine wm_g2 (i := 5) (some 8) rfl rfl (by rfl) HS2 (fun W HS => (by (exact ry_load_cell _ _ _ _ _ _ _ _ HS rfl m0 rfl Try.underlying3 rfl))) ?_))
      simp only [Act.put, List.getElem_toArray, List.getElem_cons_succ, List.getElem_cons_zero, List.setIfInBounds_toArray, List.set_cons_succ, List.set_cons_zero]
      ((refine wm_g2 (i := 6) (v := ?v1_39) (some 9) rfl rfl (by rfl) HS2 (fun W HS => ?y1_39) ?_; case y1_39 => (go_simp; try with_reducible rfl)))
      simp only [Act.put, List.getElem_toArray, List.getElem_cons_succ, List.getElem_cons_zero, List.setIfInBounds_toArray, List.set_cons_succ, List.set_cons_zero]
      ((refine wm_g2 (i := 7) (some 10) rfl rfl (by rfl) HS2 (fun W HS => (by (exact ry_load_cell _ _ _ _ _ _ _ _ HS rfl m0 rfl Try.underlying3 rfl))) ?_))
      simp only [Act.put, List.getElem_toArray, List.getElem_cons_succ, List.getElem_cons_zero, List.setIfInBounds_toArray, List.set_cons_succ, List.set_cons_zero]
      ((refine wm_g2 (i := 8) (v := ?v1_41) (some 11) rfl rfl (by rfl) HS2 (fun W HS => ?y1_41) ?_; case y1_41 => (go_simp; try with_reducible rfl)))
      simp only [Act.put, List.getElem_toArray, List.getElem_cons_succ, List.getElem_cons_zero, List.setIfInBounds_toArray, List.set_cons_succ, List.set_cons_zero]
      refine wm_q2 (i := 9) (v := ?v1_42) (some 12) rfl rfl rfl HS2 (fun W HS => ?y1_42) ?_
      case y1_42 => (go_simp; try with_reducible rfl)
      simp only [Act.put, List.getElem_toArray, List.getElem_cons_succ, List.getElem_cons_zero, List.setIfInBounds_toArray, List.set_cons_succ, List.set_cons_zero]
      refine wm_q2 (i := 10) (v := ?v1_43) (some 13) rfl rfl rfl HS2 (fun W HS => ?y1_43) ?_
      case y1_43 => (go_simp; try with_reducible rfl)
      simp only [Act.put, List.getElem_toArray, List.getElem_cons_succ, List.getElem_cons_zero, List.setIfInBounds_toArray, List.set_cons_succ, List.set_cons_zero]
      ((refine wm_g2 (i := 11) (v := ?v1_44) (some 14) rfl rfl (by rfl) HS2 (fun W HS => ?y1_44) ?_; case y1_44 => (go_simp; try with_reducible rfl)))
      simp only [Act.put, List.getElem_toArray, List.getElem_cons_succ, List.getElem_cons_zero, List.setIfInBounds_toArray, List.set_cons_succ, List.set_cons_zero]
      ((refine wm_g2 (i := 12) (some 15) rfl rfl (by rfl) HS2 (fun W HS => (by (exact ry_load_cell _ _ _ _ _ _ _ _ HS rfl m0 rfl Try.underlying3 rfl))) ?_))
      simp only [Act.put, List.getElem_toArray, List.getElem_cons_succ, List.getElem_cons_zero, List.setIfInBounds_toArray, List.set_cons_succ, List.set_cons_zero]
      ((refine wm_g2 (i := 13) (v := ?v1_46) (some 16) rfl rfl (by rfl) HS2 (fun W HS => ?y1_46) ?_; case y1_46 => (go_simp; try with_reducible rfl)))
      simp only [Act.put, List.getElem_toArray, List.getElem_cons_succ, List.getElem_cons_zero, List.setIfInBounds_toArray, List.set_cons_succ, List.set_cons_zero]
      refine wm_q2 (i := 14) (v := ?v1_47) (some 17) rfl rfl rfl HS2 (fun W HS => ?y1_47) ?_
      case y1_47 => (go_simp; try with_reducible rfl)
      simp only [Act.put, List.getElem_toArray, List.getElem_cons_succ, List.getElem_cons_zero, List.setIfInBounds_toArray, List.set_cons_succ, List.set_cons_zero]
      refine wm_q2 (i := 15) (v := ?v1_48) (some 18) rfl rfl rfl HS2 (fun W HS => ?y1_48) ?_
      case y1_48 => (go_simp; try with_reducible rfl)
      simp only [Act.put, List.getElem_toArray, List.getElem_cons_succ, List.getElem_cons_zero, List.setIfInBounds_toArray, List.set_cons_succ, List.set_cons_zero]
      ((refine wm_g2 (i := 16) (v := ?v1_49) (some 19) rfl rfl (by rfl) HS2 (fun W HS => ?y1_49) ?_; case y1_49 => (go_simp; try with_reducible rfl)))
      simp only [Act.put, List.getElem_toArray, List.getElem_cons_succ, List.getElem_cons_zero, List.setIfInBounds_toArray, List.set_cons_succ, List.set_cons_zero]
      ((refine wm_g2 (i := 17) (some 20) rfl rfl (by rfl) HS2 (fun W HS => (by (exact ry_load_cell _ _ _ _ _ _ _ _ HS rfl m0 rfl Try.underlying40 rfl))) ?_))
      simp only [Act.put, List.getElem_toArray, List.getElem_cons_succ, List.getElem_cons_zero, List.setIfInBounds_toArray, List.set_cons_succ, List.set_cons_zero]
      ((refine wm_g2 (i := 18) (some 21) rfl rfl (by rfl) HS2 (fun W HS => (by ((refine ry_len _ _ _ _ 23 Try.underlying40 (hR.held HS) ?_; rfl)))) ?_))
      simp only [Act.put, List.getElem_toArray, List.getElem_cons_succ, List.getElem_cons_zero, List.setIfInBounds_toArray, List.set_cons_succ, List.set_cons_zero]
      ((refine wm_g2 (i := 19) (v := ?v1_52) (some 22) rfl rfl (by rfl) HS2 (fun W HS => ?y1_52) ?_; case y1_52 => (go_simp; try with_reducible rfl)))
      simp only [Act.put, List.getElem_toArray, List.getElem_cons_succ, List.getElem_cons_zero, List.setIfInBounds_toArray, List.set_cons_succ, List.set_cons_zero]
      ((refine wm_g2 (i := 20) (some 23) rfl rfl (by rfl) HS2 (fun W HS => (by (exact ry_load_cell _ _ _ _ _ _ _ _ HS rfl m0 rfl Try.underlying3 rfl))) ?_))
      simp only [Act.put, List.getElem_toArray, List.getElem_cons_succ, List.getElem_cons_zero, List.setIfInBounds_toArray, List.set_cons_succ, List.set_cons_zero]
      ((refine wm_g2 (i := 21) (v := ?v1_54) (some 24) rfl rfl (by rfl) HS2 (fun W HS => ?y1_54) ?_; case y1_54 => (go_simp; try with_reducible rfl)))
      simp only [Act.put, List.getElem_toArray, List.getElem_cons_succ, List.getElem_cons_zero, List.setIfInBounds_toArray, List.set_cons_succ, List.set_cons_zero]
      ((refine wm_g2 (i := 22) (some 25) rfl rfl (by rfl) HS2 (fun W HS => (by (exact ry_load_cell _ _ _ _ _ _ _ _ HS rfl m0 rfl Try.underlying3 rfl))) ?_))
      simp only [Act.put, List.getElem_toArray, List.getElem_cons_succ, List.getElem_cons_zero, List.setIfInBounds_toArray, List.set_cons_succ, List.set_cons_zero]
      ((refine wm_e0 (i := 23) rfl ?_; go_wp2_with (first | ((with_reducible refine gd_ _ ?_); refine wl_guard (by rfl) ?_) | (go_at_call 135; go_must (((with_reducible refine (parts_c b a true _ (by omega) (by omega) (by omega)).mono ?_)); rintro e W ⟨rfl, HM'⟩; replace HM := HM.keep HM'.below; clear HM'))); refine ⟨HM.held (by simp), ?_⟩; clear HS1 HS2; have HS1 : Held w W [.blk b1 #[.int .i64 a, .int .i64 b, v] 59] := HM.held (by simp); have HS2 : Held w W [.blk b1 #[.int .i64 a, .int .i64 b, v] 59] := HM.held (by simp)))
      ((refine wm_g2 (i := 24) (v := ?v1_56) (some 27) rfl rfl (by rfl) HS2 (fun W HS => ?y1_56) ?_; case y1_56 => (go_simp; try with_reducible rfl)))
      simp only [Act.put, List.getElem_toArray, List.getElem_cons_succ, List.getElem_cons_zero, List.setIfInBounds_toArray, List.set_cons_succ, List.set_cons_zero]
      refine wm_q2 (i := 25) (v := ?v1_57) (some 28) rfl rfl rfl HS2 (fun W HS => ?y1_57) ?_
      case y1_57 => (go_simp; try with_reducible rfl)
      simp only [Act.put, List.getElem_toArray, List.getElem_cons_succ, List.getElem_cons_zero, List.setIfInBounds_toArray, List.set_cons_succ, List.set_cons_zero]
      refine wm_q2 (i := 26) (v := ?v1_58) (some 2) rfl rfl rfl HS2 (fun W HS => ?y1_58) ?_
      case y1_58 => (go_simp; try with_reducible rfl)
      simp only [Act.put, List.getElem_toArray, List.getElem_cons_succ, List.getElem_cons_zero, List.setIfInBounds_toArray, List.set_cons_succ, List.set_cons_zero]
      refine wm_nilN ?_
      clear HS1 HS2
      go_wp2_with (fail)
      refine ret1 rfl (res_tmp rfl) rfl ?_
      exact ⟨by simp [hl]; omega, HM.base⟩
  · rw [fitgB_no o n path.length h]
    by_cases c1 : o < 1
    · have e1 : decide (1 ≤ o) = false := by simp; omega
      clear h
      go_enter Try.func83, Try.ntmps83
      go_wp2_with (first
        | ((with_reducible refine s_ 1 ?_); go_must (refine wl_box (dst := some 1) (cs := #[.int .i64 o, .int .i64 n, v]) _ _ _ rfl rfl HM ?_; clear HM; intro b1 W HM)))
      replace HM := HM.drew
      refine wp_region_mixN (fun W => Held w W [.blk b1 #[.int .i64 o, .int .i64 n, v] 59]) (fun W => Held w W [.blk b1 #[.int .i64 o, .int .i64 n, v] 59]) (.cons (2, 0) (.cons (2, 1) (.cons (2, 2) (.cons (2, 3) (.cons (2, 4) (.cons (2, 5) (.cons (2, 6) (.cons (2, 7) (.cons (2, 8) (.cons (2, 9) (.cons (2, 10) (.cons (2, 11) (.cons (2, 12) (.cons (2, 13) (.cons (2, 14) (.cons (2, 15) (.cons (2, 16) (.cons (2, 17) (.cons (2, 18) (.cons (2, 19) (.cons (2, 20) (.cons (2, 21) (.cons (2, 22) (.cons (0, 23) (.cons (2, 24) (.cons (2, 25) (.cons (2, 26) .nil))))))))))))))))))))))))))) [] (by kernel_rfl) (by kernel_rfl) (by kernel_rfl) (fun W h => Held.weak h (by simp)) (HM.held (by simp)) ?_
      revert HM; generalize World.drew _ = W; intro HM
      have HS1 : Held w W [.blk b1 #[.int .i64 o, .int .i64 n, v] 59] := HM.held (by simp)
      have HS2 : Held w W [.blk b1 #[.int .i64 o, .int .i64 n, v] 59] := HM.held (by simp)
      refine wm_q2 (i := 0) (v := ?v1_59) (some 3) rfl rfl rfl HS2 (fun W HS => ?y1_59) ?_
      case y1_59 => (go_simp; try with_reducible rfl)
      simp only [Act.put, List.getElem_toArray, List.getElem_cons_succ, List.getElem_cons_zero, List.setIfInBounds_toArray, List.set_cons_succ, List.set_cons_zero]
      refine wm_q2 (i := 1) (some 4) rfl rfl rfl HS2 (fun W HS => (by (exact ry_load_cell _ _ _ _ _ _ _ _ HS rfl m0 rfl Try.underlying3 rfl))) ?_
      simp only [Act.put, List.getElem_toArray, List.getElem_cons_succ, List.getElem_cons_zero, List.setIfInBounds_toArray, List.set_cons_succ, List.set_cons_zero]
      refine wm_q2 (i := 2) (v := ?v1_61) (some 5) rfl rfl rfl HS2 (fun W HS => ?y1_61) ?_
      case y1_61 => (go_simp; try with_reducible rfl)
      simp only [Act.put, List.getElem_toArray, List.getElem_cons_succ, List.getElem_cons_zero, List.setIfInBounds_toArray, List.set_cons_succ, List.set_cons_zero]
      refine wm_q2 (i := 3) (v := ?v1_62) (some 6) rfl rfl rfl HS2 (fun W HS => ?y1_62) ?_
      case y1_62 => (go_simp; try with_reducible rfl)
      simp only [Act.put, List.getElem_toArray, List.getElem_cons_succ, List.getElem_cons_zero, List.setIfInBounds_toArray, List.set_cons_succ, List.set_cons_zero]
      ((refine wm_s2 (i := 4) (some 7) rfl rfl (by rfl) HS2 ?_))
      simp only [Act.put, List.getElem_toArray, List.getElem_cons_succ, List.getElem_cons_zero, List.setIfInBounds_toArray, List.set_cons_succ, List.set_cons_zero]
      ((refine wm_s2 (i := 5) (some 8) rfl rfl (by rfl) HS2 ?_))
      simp only [Act.put, List.getElem_toArray, List.getElem_cons_succ, List.getElem_cons_zero, List.setIfInBounds_toArray, List.set_cons_succ, List.set_cons_zero]
      ((refine wm_s2 (i := 6) (some 9) rfl rfl (by rfl) HS2 ?_))
      simp only [Act.put, List.getElem_toArray, List.getElem_cons_succ, List.getElem_cons_zero, List.setIfInBounds_toArray, List.set_cons_succ, List.set_cons_zero]
      ((refine wm_s2 (i := 7) (some 10) rfl rfl (by rfl) HS2 ?_))
      simp only [Act.put, List.getElem_toArray, List.getElem_cons_succ, List.getElem_cons_zero, List.setIfInBounds_toArray, List.set_cons_succ, List.set_cons_zero]
      ((refine wm_s2 (i := 8) (some 11) rfl rfl (by rfl) HS2 ?_))
      simp only [Act.put, List.getElem_toArray, List.getElem_cons_succ, List.getElem_cons_zero, List.setIfInBounds_toArray, List.set_cons_succ, List.set_cons_zero]
      refine wm_q2 (i := 9) (v := ?v1_68) (some 12) rfl rfl rfl HS2 (fun W HS => ?y1_68) ?_
      case y1_68 => (go_simp; try with_reducible rfl)
      simp only [Act.put, List.getElem_toArray, List.getElem_cons_succ, List.getElem_cons_zero, List.setIfInBounds_toArray, List.set_cons_succ, List.set_cons_zero]
      refine wm_q2 (i := 10) (v := ?v1_69) (some 13) rfl rfl rfl HS2 (fun W HS => ?y1_69) ?_
      case y1_69 => (go_simp; try with_reducible rfl)
      simp only [Act.put, List.getElem_toArray, List.getElem_cons_succ, List.getElem_cons_zero, List.setIfInBounds_toArray, List.set_cons_succ, List.set_cons_zero]
      ((refine wm_s2 (i := 11) (some 14) rfl rfl (by rfl) HS2 ?_))
      simp only [Act.put, List.getElem_toArray, List.getElem_cons_succ, List.getElem_cons_zero, List.setIfInBounds_toArray, List.set_cons_succ, List.set_cons_zero]
      ((refine wm_s2 (i := 12) (some 15) rfl rfl (by rfl) HS2 ?_))
      simp only [Act.put, List.getElem_toArray, List.getElem_cons_succ, List.getElem_cons_zero, List.setIfInBounds_toArray, List.set_cons_succ, List.set_cons_zero]
      ((refine wm_s2 (i := 13) (some 16) rfl rfl (by rfl) HS2 ?_))
      simp only [Act.put, List.getElem_toArray, List.getElem_cons_succ, List.getElem_cons_zero, List.setIfInBounds_toArray, List.set_cons_succ, List.set_cons_zero]
      refine wm_q2 (i := 14) (v := ?v1_73) (some 17) rfl rfl rfl HS2 (fun W HS => ?y1_73) ?_
      case y1_73 => (go_simp; try with_reducible rfl)
      simp only [Act.put, List.getElem_toArray, List.getElem_cons_succ, List.getElem_cons_zero, List.setIfInBounds_toArray, List.set_cons_succ, List.set_cons_zero]
      refine wm_q2 (i := 15) (v := ?v1_74) (some 18) rfl rfl rfl HS2 (fun W HS => ?y1_74) ?_
      case y1_74 => (go_simp; try with_reducible rfl)
      simp only [Act.put, List.getElem_toArray, List.getElem_cons_succ, List.getElem_cons_zero, List.setIfInBounds_toArray, List.set_cons_succ, List.set_cons_zero]
      ((refine wm_s2 (i := 16) (some 19) rfl rfl (by rfl) HS2 ?_))
      simp only [Act.put, List.getElem_toArray, List.getElem_cons_succ, List.getElem_cons_zero, List.setIfInBounds_toArray, List.set_cons_succ, List.set_cons_zero]
      ((refine wm_s2 (i := 17) (some 20) rfl rfl (by rfl) HS2 ?_))
      simp only [Act.put, List.getElem_toArray, List.getElem_cons_succ, List.getElem_cons_zero, List.setIfInBounds_toArray, List.set_cons_succ, List.set_cons_zero]
      ((refine wm_s2 (i := 18) (some 21) rfl rfl (by rfl) HS2 ?_))
      simp only [Act.put, List.getElem_toArray, List.getElem_cons_succ, List.getElem_cons_zero, List.setIfInBounds_toArray, List.set_cons_succ, List.set_cons_zero]
      ((refine wm_s2 (i := 19) (some 22) rfl rfl (by rfl) HS2 ?_))
      simp only [Act.put, List.getElem_toArray, List.getElem_cons_succ, List.getElem_cons_zero, List.setIfInBounds_toArray, List.set_cons_succ, List.set_cons_zero]
      ((refine wm_s2 (i := 20) (some 23) rfl rfl (by rfl) HS2 ?_))
      simp only [Act.put, List.getElem_toArray, List.getElem_cons_succ, List.getElem_cons_zero, List.setIfInBounds_toArray, List.set_cons_succ, List.set_cons_zero]
      ((refine wm_s2 (i := 21) (some 24) rfl rfl (by rfl) HS2 ?_))
      simp only [Act.put, List.getElem_toArray, List.getElem_cons_succ, List.getElem_cons_zero, List.setIfInBounds_toArray, List.set_cons_succ, List.set_cons_zero]
      ((refine wm_s2 (i := 22) (some 25) rfl rfl (by rfl) HS2 ?_))
      simp only [Act.put, List.getElem_toArray, List.getElem_cons_succ, List.getElem_cons_zero, List.setIfInBounds_toArray, List.set_cons_succ, List.set_cons_zero]
      ((refine wm_es0 (i := 23) (some 26) rfl rfl (by rfl) HS1 ?_; simp only [Act.put, List.getElem_toArray, List.getElem_cons_succ, List.getElem_cons_zero, List.setIfInBounds_toArray, List.set_cons_succ, List.set_cons_zero]))
      ((refine wm_s2 (i := 24) (some 27) rfl rfl (by rfl) HS2 ?_))
      simp only [Act.put, List.getElem_toArray, List.getElem_cons_succ, List.getElem_cons_zero, List.setIfInBounds_toArray, List.set_cons_succ, List.set_cons_zero]
      refine wm_q2 (i := 25) (v := ?v1_83) (some 28) rfl rfl rfl HS2 (fun W HS => ?y1_83) ?_
      case y1_83 => (go_simp; try with_reducible rfl)
      simp only [Act.put, List.getElem_toArray, List.getElem_cons_succ, List.getElem_cons_zero, List.setIfInBounds_toArray, List.set_cons_succ, List.set_cons_zero]
      refine wm_q2 (i := 26) (v := ?v1_84) (some 2) rfl rfl rfl HS2 (fun W HS => ?y1_84) ?_
      case y1_84 => (go_simp; try with_reducible rfl)
      simp only [Act.put, List.getElem_toArray, List.getElem_cons_succ, List.getElem_cons_zero, List.setIfInBounds_toArray, List.set_cons_succ, List.set_cons_zero]
      refine wm_nilN ?_
      clear HS1 HS2
      go_wp2_with (fail)
      refine ret1 rfl (res_tmp rfl) rfl ?_
      exact ⟨rfl, HM.base⟩
    · by_cases c2 : n < o
      · have e1 : 1 ≤ o := by omega
        have e2 : decide (o ≤ n) = false := by simp; omega
        clear h
        go_enter Try.func83, Try.ntmps83
        go_wp2_with (first
          | ((with_reducible refine s_ 1 ?_); go_must (refine wl_box (dst := some 1) (cs := #[.int .i64 o, .int .i64 n, v]) _ _ _ rfl rfl HM ?_; clear HM; intro b1 W HM)))
        replace HM := HM.drew
        refine wp_region_mixN (fun W => Held w W [.blk b1 #[.int .i64 o, .int .i64 n, v] 59]) (fun W => Held w W [.blk b1 #[.int .i64 o, .int .i64 n, v] 59]) (.cons (2, 0) (.cons (2, 1) (.cons (2, 2) (.cons (2, 3) (.cons (2, 4) (.cons (2, 5) (.cons (2, 6) (.cons (2, 7) (.cons (2, 8) (.cons (2, 9) (.cons (2, 10) (.cons (2, 11) (.cons (2, 12) (.cons (2, 13) (.cons (2, 14) (.cons (2, 15) (.cons (2, 16) (.cons (2, 17) (.cons (2, 18) (.cons (2, 19) (.cons (2, 20) (.cons (2, 21) (.cons (2, 22) (.cons (0, 23) (.cons (2, 24) (.cons (2, 25) (.cons (2, 26) .nil))))))))))))))))))))))))))) [] (by kernel_rfl) (by kernel_rfl) (by kernel_rfl) (fun W h => Held.weak h (by simp)) (HM.held (by simp)) ?_
        revert HM; generalize World.drew _ = W; intro HM
        have HS1 : Held w W [.blk b1 #[.int .i64 o, .int .i64 n, v] 59] := HM.held (by simp)
        have HS2 : Held w W [.blk b1 #[.int .i64 o, .int .i64 n, v] 59] := HM.held (by simp)
        refine wm_q2 (i := 0) (v := ?v1_85) (some 3) rfl rfl rfl HS2 (fun W HS => ?y1_85) ?_
        case y1_85 => (go_simp; try with_reducible rfl)
        simp only [Act.put, List.getElem_toArray, List.getElem_cons_succ, List.getElem_cons_zero, List.setIfInBounds_toArray, List.set_cons_succ, List.set_cons_zero]
        refine wm_q2 (i := 1) (some 4) rfl rfl rfl HS2 (fun W HS => (by (exact ry_load_cell _ _ _ _ _ _ _ _ HS rfl m0 rfl Try.underlying3 rfl))) ?_
        simp only [Act.put, List.getElem_toArray, List.getElem_cons_succ, List.getElem_cons_zero, List.setIfInBounds_toArray, List.set_cons_succ, List.set_cons_zero]
        refine wm_q2 (i := 2) (v := ?v1_87) (some 5) rfl rfl rfl HS2 (fun W HS => ?y1_87) ?_
        case y1_87 => (go_simp; try with_reducible rfl)
        simp only [Act.put, List.getElem_toArray, List.getElem_cons_succ, List.getElem_cons_zero, List.setIfInBounds_toArray, List.set_cons_succ, List.set_cons_zero]
        refine wm_q2 (i := 3) (v := ?v1_88) (some 6) rfl rfl rfl HS2 (fun W HS => ?y1_88) ?_
        case y1_88 => (go_simp; try with_reducible rfl)
        simp only [Act.put, List.getElem_toArray, List.getElem_cons_succ, List.getElem_cons_zero, List.setIfInBounds_toArray, List.set_cons_succ, List.set_cons_zero]
        ((refine wm_g2 (i := 4) (v := ?v1_89) (some 7) rfl rfl (by rfl) HS2 (fun W HS => ?y1_89) ?_; case y1_89 => (go_simp; try with_reducible rfl)))
        simp only [Act.put, List.getElem_toArray, List.getElem_cons_succ, List.getElem_cons_zero, List.setIfInBounds_toArray, List.set_cons_succ, List.set_cons_zero]
        ((refine wm_g2 (i := 5) (some 8) rfl rfl (by rfl) HS2 (fun W HS => (by (exact ry_load_cell _ _ _ _ _ _ _ _ HS rfl m0 rfl Try.underlying3 rfl))) ?_))
        simp only [Act.put, List.getElem_toArray, List.getElem_cons_succ, List.getElem_cons_zero, List.setIfInBounds_toArray, List.set_cons_succ, List.set_cons_zero]
        ((refine wm_g2 (i := 6) (v := ?v1_91) (some 9) rfl rfl (by rfl) HS2 (fun W HS => ?y1_91) ?_; case y1_91 => (go_simp; try with_reducible rfl)))
        simp only [Act.put, List.getElem_toArray, List.getElem_cons_succ, List.getElem_cons_zero, List.setIfInBounds_toArray, List.set_cons_succ, List.set_cons_zero]
        ((refine wm_g2 (i := 7) (some 10) rfl rfl (by rfl) HS2 (fun W HS => (by (exact ry_load_cell _ _ _ _ _ _ _ _ HS rfl m0 rfl Try.underlying3 rfl))) ?_))
        simp only [Act.put, List.getElem_toArray, List.getElem_cons_succ, List.getElem_cons_zero, List.setIfInBounds_toArray, List.set_cons_succ, List.set_cons_zero]
        ((refine wm_g2 (i := 8) (v := ?v1_93) (some 11) rfl rfl (by rfl) HS2 (fun W HS => ?y1_93) ?_; case y1_93 => (go_simp; try with_reducible rfl)))
        simp only [Act.put, List.getElem_toArray, List.getElem_cons_succ, List.getElem_cons_zero, List.setIfInBounds_toArray, List.set_cons_succ, List.set_cons_zero]
        refine wm_q2 (i := 9) (v := ?v1_94) (some 12) rfl rfl rfl HS2 (fun W HS => ?y1_94) ?_
        case y1_94 => (go_simp; try with_reducible rfl)
        simp only [Act.put, List.getElem_toArray, List.getElem_cons_succ, List.getElem_cons_zero, List.setIfInBounds_toArray, List.set_cons_succ, List.set_cons_zero]
        refine wm_q2 (i := 10) (v := ?v1_95) (some 13) rfl rfl rfl HS2 (fun W HS => ?y1_95) ?_
        case y1_95 => (go_simp; try with_reducible rfl)
        simp only [Act.put, List.getElem_toArray, List.getElem_cons_succ, List.getElem_cons_zero, List.setIfInBounds_toArray, List.set_cons_succ, List.set_cons_zero]
        ((refine wm_s2 (i := 11) (some 14) rfl rfl (by rfl) HS2 ?_))
        simp only [Act.put, List.getElem_toArray, List.getElem_cons_succ, List.getElem_cons_zero, List.setIfInBounds_toArray, List.set_cons_succ, List.set_cons_zero]
        ((refine wm_s2 (i := 12) (some 15) rfl rfl (by rfl) HS2 ?_))
        simp only [Act.put, List.getElem_toArray, List.getElem_cons_succ, List.getElem_cons_zero, List.setIfInBounds_toArray, List.set_cons_succ, List.set_cons_zero]
        ((refine wm_s2 (i := 13) (some 16) rfl rfl (by rfl) HS2 ?_))
        simp only [Act.put, List.getElem_toArray, List.getElem_cons_succ, List.getElem_cons_zero, List.setIfInBounds_toArray, List.set_cons_succ, List.set_cons_zero]
        refine wm_q2 (i := 14) (v := ?v1_99) (some 17) rfl rfl rfl HS2 (fun W HS => ?y1_99) ?_
        case y1_99 => (go_simp; try with_reducible rfl)
        simp only [Act.put, List.getElem_toArray, List.getElem_cons_succ, List.getElem_cons_zero, List.setIfInBounds_toArray, List.set_cons_succ, List.set_cons_zero]
        refine wm_q2 (i := 15) (v := ?v1_100) (some 18) rfl rfl rfl HS2 (fun W HS => ?y1_100) ?_
        case y1_100 => (go_simp; try with_reducible rfl)
        simp only [Act.put, List.getElem_toArray, List.getElem_cons_succ, List.getElem_cons_zero, List.setIfInBounds_toArray, List.set_cons_succ, List.set_cons_zero]
        ((refine wm_s2 (i := 16) (some 19) rfl rfl (by rfl) HS2 ?_))
        simp only [Act.put, List.getElem_toArray, List.getElem_cons_succ, List.getElem_cons_zero, List.setIfInBounds_toArray, List.set_cons_succ, List.set_cons_zero]
        ((refine wm_s2 (i := 17) (some 20) rfl rfl (by rfl) HS2 ?_))
        simp only [Act.put, List.getElem_toArray, List.getElem_cons_succ, List.getElem_cons_zero, List.setIfInBounds_toArray, List.set_cons_succ, List.set_cons_zero]
        ((refine wm_s2 (i := 18) (some 21) rfl rfl (by rfl) HS2 ?_))
        simp only [Act.put, List.getElem_toArray, List.getElem_cons_succ, List.getElem_cons_zero, List.setIfInBounds_toArray, List.set_cons_succ, List.set_cons_zero]
        ((refine wm_s2 (i := 19) (some 22) rfl rfl (by rfl) HS2 ?_))
        simp only [Act.put, List.getElem_toArray, List.getElem_cons_succ, List.getElem_cons_zero, List.setIfInBounds_toArray, List.set_cons_succ, List.set_cons_zero]
        ((refine wm_s2 (i := 20) (some 23) rfl rfl (by rfl) HS2 ?_))
        simp only [Act.put, List.getElem_toArray, List.getElem_cons_succ, List.getElem_cons_zero, List.setIfInBounds_toArray, List.set_cons_succ, List.set_cons_zero]
        ((refine wm_s2 (i := 21) (some 24) rfl rfl (by rfl) HS2 ?_))
        simp only [Act.put, List.getElem_toArray, List.getElem_cons_succ, List.getElem_cons_zero, List.setIfInBounds_toArray, List.set_cons_succ, List.set_cons_zero]
        ((refine wm_s2 (i := 22) (some 25) rfl rfl (by rfl) HS2 ?_))
        simp only [Act.put, List.getElem_toArray, List.getElem_cons_succ, List.getElem_cons_zero, List.setIfInBounds_toArray, List.set_cons_succ, List.set_cons_zero]
        ((refine wm_es0 (i := 23) (some 26) rfl rfl (by rfl) HS1 ?_; simp only [Act.put, List.getElem_toArray, List.getElem_cons_succ, List.getElem_cons_zero, List.setIfInBounds_toArray, List.set_cons_succ, List.set_cons_zero]))
        ((refine wm_s2 (i := 24) (some 27) rfl rfl (by rfl) HS2 ?_))
        simp only [Act.put, List.getElem_toArray, List.getElem_cons_succ, List.getElem_cons_zero, List.setIfInBounds_toArray, List.set_cons_succ, List.set_cons_zero]
        refine wm_q2 (i := 25) (v := ?v1_109) (some 28) rfl rfl rfl HS2 (fun W HS => ?y1_109) ?_
        case y1_109 => (go_simp; try with_reducible rfl)
        simp only [Act.put, List.getElem_toArray, List.getElem_cons_succ, List.getElem_cons_zero, List.setIfInBounds_toArray, List.set_cons_succ, List.set_cons_zero]
        refine wm_q2 (i := 26) (v := ?v1_110) (some 2) rfl rfl rfl HS2 (fun W HS => ?y1_110) ?_
        case y1_110 => (go_simp; try with_reducible rfl)
        simp only [Act.put, List.getElem_toArray, List.getElem_cons_succ, List.getElem_cons_zero, List.setIfInBounds_toArray, List.set_cons_succ, List.set_cons_zero]
        refine wm_nilN ?_
        clear HS1 HS2
        go_wp2_with (fail)
        refine ret1 rfl (res_tmp rfl) rfl ?_
        exact ⟨rfl, HM.base⟩
      · have e1 : 1 ≤ o := by omega
        have e2 : o ≤ n := by omega
        have e3 : decide (n ≤ 128) = false := by simp; omega
        clear h
        go_enter Try.func83, Try.ntmps83
        go_wp2_with (first
          | ((with_reducible refine s_ 1 ?_); go_must (refine wl_box (dst := some 1) (cs := #[.int .i64 o, .int .i64 n, v]) _ _ _ rfl rfl HM ?_; clear HM; intro b1 W HM)))
        replace HM := HM.drew
        refine wp_region_mixN (fun W => Held w W [.blk b1 #[.int .i64 o, .int .i64 n, v] 59]) (fun W => Held w W [.blk b1 #[.int .i64 o, .int .i64 n, v] 59]) (.cons (2, 0) (.cons (2, 1) (.cons (2, 2) (.cons (2, 3) (.cons (2, 4) (.cons (2, 5) (.cons (2, 6) (.cons (2, 7) (.cons (2, 8) (.cons (2, 9) (.cons (2, 10) (.cons (2, 11) (.cons (2, 12) (.cons (2, 13) (.cons (2, 14) (.cons (2, 15) (.cons (2, 16) (.cons (2, 17) (.cons (2, 18) (.cons (2, 19) (.cons (2, 20) (.cons (2, 21) (.cons (2, 22) (.cons (0, 23) (.cons (2, 24) (.cons (2, 25) (.cons (2, 26) .nil))))))))))))))))))))))))))) [] (by kernel_rfl) (by kernel_rfl) (by kernel_rfl) (fun W h => Held.weak h (by simp)) (HM.held (by simp)) ?_
        revert HM; generalize World.drew _ = W; intro HM
        have HS1 : Held w W [.blk b1 #[.int .i64 o, .int .i64 n, v] 59] := HM.held (by simp)
        have HS2 : Held w W [.blk b1 #[.int .i64 o, .int .i64 n, v] 59] := HM.held (by simp)
        refine wm_q2 (i := 0) (v := ?v1_111) (some 3) rfl rfl rfl HS2 (fun W HS => ?y1_111) ?_
        case y1_111 => (go_simp; try with_reducible rfl)
        simp only [Act.put, List.getElem_toArray, List.getElem_cons_succ, List.getElem_cons_zero, List.setIfInBounds_toArray, List.set_cons_succ, List.set_cons_zero]
        refine wm_q2 (i := 1) (some 4) rfl rfl rfl HS2 (fun W HS => (by (exact ry_load_cell _ _ _ _ _ _ _ _ HS rfl m0 rfl Try.underlying3 rfl))) ?_
        simp only [Act.put, List.getElem_toArray, List.getElem_cons_succ, List.getElem_cons_zero, List.setIfInBounds_toArray, List.set_cons_succ, List.set_cons_zero]
        refine wm_q2 (i := 2) (v := ?v1_113) (some 5) rfl rfl rfl HS2 (fun W HS => ?y1_113) ?_
        case y1_113 => (go_simp; try with_reducible rfl)
        simp only [Act.put, List.getElem_toArray, List.getElem_cons_succ, List.getElem_cons_zero, List.setIfInBounds_toArray, List.set_cons_succ, List.set_cons_zero]
        refine wm_q2 (i := 3) (v := ?v1_114) (some 6) rfl rfl rfl HS2 (fun W HS => ?y1_114) ?_
        case y1_114 => (go_simp; try with_reducible rfl)
        simp only [Act.put, List.getElem_toArray, List.getElem_cons_succ, List.getElem_cons_zero, List.setIfInBounds_toArray, List.set_cons_succ, List.set_cons_zero]
        ((refine wm_g2 (i := 4) (v := ?v1_115) (some 7) rfl rfl (by rfl) HS2 (fun W HS => ?y1_115) ?_; case y1_115 => (go_simp; try with_reducible rfl)))
        simp only [Act.put, List.getElem_toArray, List.getElem_cons_succ, List.getElem_cons_zero, List.setIfInBounds_toArray, List.set_cons_succ, List.set_cons_zero]
        ((refine wm_g2 (i := 5) (some 8) rfl rfl (by rfl) HS2 (fun W HS => (by (exact ry_load_cell _ _ _ _ _ _ _ _ HS rfl m0 rfl Try.underlying3 rfl))) ?_))
        simp only [Act.put, List.getElem_toArray, List.getElem_cons_succ, List.getElem_cons_zero, List.setIfInBounds_toArray, List.set_cons_succ, List.set_cons_zero]
        ((refine wm_g2 (i := 6) (v := ?v1_117) (some 9) rfl rfl (by rfl) HS2 (fun W HS => ?y1_117) ?_; case y1_117 => (go_simp; try with_reducible rfl)))
        simp only [Act.put, List.getElem_toArray, List.getElem_cons_succ, List.getElem_cons_zero, List.setIfInBounds_toArray, List.set_cons_succ, List.set_cons_zero]
        ((refine wm_g2 (i := 7) (some 10) rfl rfl (by rfl) HS2 (fun W HS => (by (exact ry_load_cell _ _ _ _ _ _ _ _ HS rfl m0 rfl Try.underlying3 rfl))) ?_))
        simp only [Act.put, List.getElem_toArray, List.getElem_cons_succ, List.getElem_cons_zero, List.setIfInBounds_toArray, List.set_cons_succ, List.set_cons_zero]
        ((refine wm_g2 (i := 8) (v := ?v1_119) (some 11) rfl rfl (by rfl) HS2 (fun W HS => ?y1_119) ?_; case y1_119 => (go_simp; try with_reducible rfl)))
        simp only [Act.put, List.getElem_toArray, List.getElem_cons_succ, List.getElem_cons_zero, List.setIfInBounds_toArray, List.set_cons_succ, List.set_cons_zero]
        refine wm_q2 (i := 9) (v := ?v1_120) (some 12) rfl rfl rfl HS2 (fun W HS => ?y1_120) ?_
        case y1_120 => (go_simp; try with_reducible rfl)
        simp only [Act.put, List.getElem_toArray, List.getElem_cons_succ, List.getElem_cons_zero, List.setIfInBounds_toArray, List.set_cons_succ, List.set_cons_zero]
        refine wm_q2 (i := 10) (v := ?v1_121) (some 13) rfl rfl rfl HS2 (fun W HS => ?y1_121) ?_
        case y1_121 => (go_simp; try with_reducible rfl)
        simp only [Act.put, List.getElem_toArray, List.getElem_cons_succ, List.getElem_cons_zero, List.setIfInBounds_toArray, List.set_cons_succ, List.set_cons_zero]
        ((refine wm_g2 (i := 11) (v := ?v1_122) (some 14) rfl rfl (by rfl) HS2 (fun W HS => ?y1_122) ?_; case y1_122 => (go_simp; try with_reducible rfl)))
        simp only [Act.put, List.getElem_toArray, List.getElem_cons_succ, List.getElem_cons_zero, List.setIfInBounds_toArray, List.set_cons_succ, List.set_cons_zero]
        ((refine wm_g2 (i := 12) (some 15) rfl rfl (by rfl) HS2 (fun W HS => (by (exact ry_load_cell _ _ _ _ _ _ _ _ HS rfl m0 rfl Try.underlying3 rfl))) ?_))
        simp only [Act.put, List.getElem_toArray, List.getElem_cons_succ, List.getElem_cons_zero, List.setIfInBounds_toArray, List.set_cons_succ, List.set_cons_zero]
        ((refine wm_g2 (i := 13) (v := ?v1_124) (some 16) rfl rfl (by rfl) HS2 (fun W HS => ?y1_124) ?_; case y1_124 => (go_simp; try with_reducible rfl)))
        simp only [Act.put, List.getElem_toArray, List.getElem_cons_succ, List.getElem_cons_zero, List.setIfInBounds_toArray, List.set_cons_succ, List.set_cons_zero]
        refine wm_q2 (i := 14) (v := ?v1_125) (some 17) rfl rfl rfl HS2 (fun W HS => ?y1_125) ?_
        case y1_125 => (go_simp; try with_reducible rfl)
        simp only [Act.put, List.getElem_toArray, List.getElem_cons_succ, List.getElem_cons_zero, List.setIfInBounds_toArray, List.set_cons_succ, List.set_cons_zero]
        refine wm_q2 (i := 15) (v := ?v1_126) (some 18) rfl rfl rfl HS2 (fun W HS => ?y1_126) ?_
        case y1_126 => (go_simp; try with_reducible rfl)
        simp only [Act.put, List.getElem_toArray, List.getElem_cons_succ, List.getElem_cons_zero, List.setIfInBounds_toArray, List.set_cons_succ, List.set_cons_zero]
        ((refine wm_s2 (i := 16) (some 19) rfl rfl (by rfl) HS2 ?_))
        simp only [Act.put, List.getElem_toArray, List.getElem_cons_succ, List.getElem_cons_zero, List.setIfInBounds_toArray, List.set_cons_succ, List.set_cons_zero]
        ((refine wm_s2 (i := 17) (some 20) rfl rfl (by rfl) HS2 ?_))
        simp only [Act.put, List.getElem_toArray, List.getElem_cons_succ, List.getElem_cons_zero, List.setIfInBounds_toArray, List.set_cons_succ, List.set_cons_zero]
        ((refine wm_s2 (i := 18) (some 21) rfl rfl (by rfl) HS2 ?_))
        simp only [Act.put, List.getElem_toArray, List.getElem_cons_succ, List.getElem_cons_zero, List.setIfInBounds_toArray, List.set_cons_succ, List.set_cons_zero]
        ((refine wm_s2 (i := 19) (some 22) rfl rfl (by rfl) HS2 ?_))
        simp only [Act.put, List.getElem_toArray, List.getElem_cons_succ, List.getElem_cons_zero, List.setIfInBounds_toArray, List.set_cons_succ, List.set_cons_zero]
        ((refine wm_s2 (i := 20) (some 23) rfl rfl (by rfl) HS2 ?_))
        simp only [Act.put, List.getElem_toArray, List.getElem_cons_succ, List.getElem_cons_zero, List.setIfInBounds_toArray, List.set_cons_succ, List.set_cons_zero]
        ((refine wm_s2 (i := 21) (some 24) rfl rfl (by rfl) HS2 ?_))
        simp only [Act.put, List.getElem_toArray, List.getElem_cons_succ, List.getElem_cons_zero, List.setIfInBounds_toArray, List.set_cons_succ, List.set_cons_zero]
        ((refine wm_s2 (i := 22) (some 25) rfl rfl (by rfl) HS2 ?_))
        simp only [Act.put, List.getElem_toArray, List.getElem_cons_succ, List.getElem_cons_zero, List.setIfInBounds_toArray, List.set_cons_succ, List.set_cons_zero]
        ((refine wm_es0 (i := 23) (some 26) rfl rfl (by rfl) HS1 ?_; simp only [Act.put, List.getElem_toArray, List.getElem_cons_succ, List.getElem_cons_zero, List.setIfInBounds_toArray, List.set_cons_succ, List.set_cons_zero]))
        ((refine wm_s2 (i := 24) (some 27) rfl rfl (by rfl) HS2 ?_))
        simp only [Act.put, List.getElem_toArray, List.getElem_cons_succ, List.getElem_cons_zero, List.setIfInBounds_toArray, List.set_cons_succ, List.set_cons_zero]
        refine wm_q2 (i := 25) (v := ?v1_135) (some 28) rfl rfl rfl HS2 (fun W HS => ?y1_135) ?_
        case y1_135 => (go_simp; try with_reducible rfl)
        simp only [Act.put, List.getElem_toArray, List.getElem_cons_succ, List.getElem_cons_zero, List.setIfInBounds_toArray, List.set_cons_succ, List.set_cons_zero]
        refine wm_q2 (i := 26) (v := ?v1_136) (some 2) rfl rfl rfl HS2 (fun W HS => ?y1_136) ?_
        case y1_136 => (go_simp; try with_reducible rfl)
        simp only [Act.put, List.getElem_toArray, List.getElem_cons_succ, List.getElem_cons_zero, List.setIfInBounds_toArray, List.set_cons_succ, List.set_cons_zero]
        refine wm_nilN ?_
        clear HS1 HS2
        go_wp2_with (fail)
        refine ret1 rfl (res_tmp rfl) rfl ?_
        exact ⟨rfl, HM.base⟩
end Go.Proofs.Ythdekionepfmdaa
