/- The cipher's words and blocks. -/
import Derived.Test.YthdekionepfmdaaCia
set_option linter.unusedVariables false
set_option linter.unusedSimpArgs false
namespace Go.Proofs.Ythdekionepfmdaa
open Go.RowKit
attribute [local go_sem] bx64 bo64 w64_8 wa64 ws64 w8_64
theorem shl8 (a : UInt64) : IntKind.u64.wrap ((a.toNat : Int) * 256) = ((shlU a 8).toNat : Int) := shl64 a 8 (by decide)

theorem wordL_snoc (l : List UInt8) (b : UInt8) : wordL (l ++ [b]) = orU (shlU (wordL l) 8) (ofB b) := by simp [wordL]
theorem wordL_take (l : List UInt8) (k : Nat) (h : k < l.length) : wordL (l.take (k + 1)) = orU (shlU (wordL (l.take k)) 8) (ofB l[k]) := by
  rw [List.take_succ_eq_append_getElem h, wordL_snoc]

set_option maxHeartbeats 400000 in
theorem wordsOf_c (k : Key) (w : World) :
    Calls Try.prog 106 #[.agg (kc k)] w fun e w' => e = .returned (pairV (wordsK k)) ∧ Mem w w' [] := by
  have HM := Mem.start w
  go_enter Try.func106, Try.ntmps106
  go_wp2_with (first
    | ((with_reducible refine s_ 1 ?_); go_must (refine wl_box (dst := some 1) (cs := kc k) _ _ _ rfl rfl HM ?_; clear HM; intro b1 W HM))
    | ((with_reducible refine s_ 2 ?_); go_must (refine wl_alloc (dst := some 2) (cs := #[Value.int IntKind.u64 0, Value.int IntKind.u64 0]) 161 _ Try.zeroValue161 rfl HM ?_; clear HM; intro b2 W HM))
    | ((with_reducible refine s_ 3 ?_); go_must (refine wl_alloc (dst := some 3) (cs := #[Value.int IntKind.u64 0, Value.int IntKind.u64 0]) 161 _ Try.zeroValue161 rfl HM ?_; clear HM; intro b3 W HM)))
  go_loopw [5] (fun i wr => ∃ j : Nat, j ≤ 8 ∧ i = .int .i64 j ∧ Mem w wr [.blk b3 #[.int .u64 (wordL (k.toList.take j)).toNat, .int .u64 (wordL ((k.toList.drop 8).take j)).toNat] 161, .blk b2 #[.int .u64 0, .int .u64 0] 161, .blk b1 (kc k) 23]) (fun i _ => 8 - (intOf i).toNat)
  case atStart => exact ⟨0, by omega, rfl, HM⟩
  case round =>
    clear HM
    obtain ⟨j, hj, rfl, HM⟩ := hrel
    by_cases hlt : j < 8
    · have hs8 := shl8
      have hb1 : (j : Int) < 16 := by omega
      have hb2 : 8 + (j : Int) < 16 := by omega
      have hb3 : 0 ≤ 8 + (j : Int) := by omega
      have hb5 : IntKind.i64.wrap (8 + (j : Int)) = 8 + (j : Int) := by rw [IntKind.wrap_i64]; omega
      have hb4 : (8 + (j : Int)).toNat = 8 + j := by omega
      go_wp2_with (fail)
      replace HM := HM.drew
      refine wp_region_mixN (fun W => Held w W [.blk b3 #[.int .u64 (wordL (k.toList.take j)).toNat, .int .u64 (wordL ((k.toList.drop 8).take j)).toNat] 161, .blk b1 (kc k) 23]) (fun W => Held w W [.blk b1 (kc k) 23]) (.cons (2, 0) (.cons (1, 1) (.cons (2, 2) (.cons (2, 3) (.cons (2, 4) (.cons (2, 5) (.cons (2, 6) (.cons (2, 7) (.cons (2, 8) (.cons (1, 9) (.cons (2, 10) (.cons (2, 11) (.cons (2, 12) (.cons (2, 13) (.cons (2, 14) (.cons (2, 15) (.cons (2, 16) (.cons (2, 17) (.cons (3, 18) (.cons (2, 19) (.cons (3, 20) .nil))))))))))))))))))))) [18, 20] (by kernel_rfl) (by kernel_rfl) (by kernel_rfl) (fun W h => Held.weak h (by simp)) (HM.held (by simp)) ?_
      revert HM; generalize World.drew _ = W; intro HM
      have HS1 : Held w W [.blk b3 #[.int .u64 (wordL (k.toList.take j)).toNat, .int .u64 (wordL ((k.toList.drop 8).take j)).toNat] 161, .blk b1 (kc k) 23] := HM.held (by simp)
      have HS2 : Held w W [.blk b1 (kc k) 23] := HM.held (by simp)
      refine wm_q2 (i := 0) (v := ?v5_1) (some 8) rfl rfl rfl HS2 (fun W HS => ?y5_1) ?_
      case y5_1 => (go_simp; try with_reducible rfl)
      simp only [Act.put, List.getElem_toArray, List.getElem_cons_succ, List.getElem_cons_zero, List.setIfInBounds_toArray, List.set_cons_succ, List.set_cons_zero]
      refine wm_q1 (i := 1) (some 9) rfl rfl rfl HS1 (fun W HS => (by (exact ry_load_cell _ _ _ _ _ _ _ _ HS rfl m0 rfl Try.underlying109 rfl))) ?_
      simp only [Act.put, List.getElem_toArray, List.getElem_cons_succ, List.getElem_cons_zero, List.setIfInBounds_toArray, List.set_cons_succ, List.set_cons_zero]
      refine wm_q2 (i := 2) (v := ?v5_3) (some 10) rfl rfl rfl HS2 (fun W HS => ?y5_3) ?_
      case y5_3 => (go_simp; try with_reducible rfl)
      simp only [Act.put, List.getElem_toArray, List.getElem_cons_succ, List.getElem_cons_zero, List.setIfInBounds_toArray, List.set_cons_succ, List.set_cons_zero]
      refine wm_q2 (i := 3) (v := ?v5_4) (some 11) rfl rfl rfl HS2 (fun W HS => ?y5_4) ?_
      case y5_4 => (go_simp; try with_reducible rfl)
      simp only [Act.put, List.getElem_toArray, List.getElem_cons_succ, List.getElem_cons_zero, List.setIfInBounds_toArray, List.set_cons_succ, List.set_cons_zero]
      refine wm_q2 (i := 4) (v := ?v5_5) (some 12) rfl rfl rfl HS2 (fun W HS => ?y5_5) ?_
      case y5_5 => (go_simp; try with_reducible rfl)
      simp only [Act.put, List.getElem_toArray, List.getElem_cons_succ, List.getElem_cons_zero, List.setIfInBounds_toArray, List.set_cons_succ, List.set_cons_zero]
      refine wm_q2 (i := 5) (some 13) rfl rfl rfl HS2 (fun W HS => (by ((refine ry_load_cell _ _ _ _ _ _ (.int .u8 (k[j]'(by omega)).toNat) _ HS ?_ m0 (kc_at k j (by omega)) Try.underlying5 rfl; rfl)))) ?_
      simp only [Act.put, List.getElem_toArray, List.getElem_cons_succ, List.getElem_cons_zero, List.setIfInBounds_toArray, List.set_cons_succ, List.set_cons_zero]
      refine wm_q2 (i := 6) (v := ?v5_7) (some 14) rfl rfl rfl HS2 (fun W HS => ?y5_7) ?_
      case y5_7 => (go_simp; try with_reducible rfl)
      simp only [Act.put, List.getElem_toArray, List.getElem_cons_succ, List.getElem_cons_zero, List.setIfInBounds_toArray, List.set_cons_succ, List.set_cons_zero]
      refine wm_q2 (i := 7) (v := ?v5_8) (some 15) rfl rfl rfl HS2 (fun W HS => ?y5_8) ?_
      case y5_8 => (go_simp; try with_reducible rfl)
      simp only [Act.put, List.getElem_toArray, List.getElem_cons_succ, List.getElem_cons_zero, List.setIfInBounds_toArray, List.set_cons_succ, List.set_cons_zero]
      refine wm_q2 (i := 8) (v := ?v5_9) (some 16) rfl rfl rfl HS2 (fun W HS => ?y5_9) ?_
      case y5_9 => (go_simp; try with_reducible rfl)
      simp only [Act.put, List.getElem_toArray, List.getElem_cons_succ, List.getElem_cons_zero, List.setIfInBounds_toArray, List.set_cons_succ, List.set_cons_zero]
      refine wm_q1 (i := 9) (some 17) rfl rfl rfl HS1 (fun W HS => (by (exact ry_load_cell _ _ _ _ _ _ _ _ HS rfl m0 rfl Try.underlying109 rfl))) ?_
      simp only [Act.put, List.getElem_toArray, List.getElem_cons_succ, List.getElem_cons_zero, List.setIfInBounds_toArray, List.set_cons_succ, List.set_cons_zero]
      refine wm_q2 (i := 10) (v := ?v5_11) (some 18) rfl rfl rfl HS2 (fun W HS => ?y5_11) ?_
      case y5_11 => (go_simp; try with_reducible rfl)
      simp only [Act.put, List.getElem_toArray, List.getElem_cons_succ, List.getElem_cons_zero, List.setIfInBounds_toArray, List.set_cons_succ, List.set_cons_zero]
      refine wm_q2 (i := 11) (v := ?v5_12) (some 19) rfl rfl rfl HS2 (fun W HS => ?y5_12) ?_
      case y5_12 => (go_simp; try with_reducible rfl)
      simp only [Act.put, List.getElem_toArray, List.getElem_cons_succ, List.getElem_cons_zero, List.setIfInBounds_toArray, List.set_cons_succ, List.set_cons_zero]
      refine wm_q2 (i := 12) (v := ?v5_13) (some 20) rfl rfl rfl HS2 (fun W HS => ?y5_13) ?_
      case y5_13 => (go_simp; try with_reducible rfl)
      simp only [Act.put, List.getElem_toArray, List.getElem_cons_succ, List.getElem_cons_zero, List.setIfInBounds_toArray, List.set_cons_succ, List.set_cons_zero]
      refine wm_q2 (i := 13) (v := ?v5_14) (some 21) rfl rfl rfl HS2 (fun W HS => ?y5_14) ?_
      case y5_14 => (go_simp; try with_reducible rfl)
      simp only [Act.put, List.getElem_toArray, List.getElem_cons_succ, List.getElem_cons_zero, List.setIfInBounds_toArray, List.set_cons_succ, List.set_cons_zero]
      refine wm_q2 (i := 14) (some 22) rfl rfl rfl HS2 (fun W HS => (by ((refine ry_load_cell _ _ _ _ _ _ (.int .u8 (k[8 + j]'(by omega)).toNat) _ HS ?_ m0 (kc_at k (8 + j) (by omega)) Try.underlying5 rfl; rfl)))) ?_
      simp only [Act.put, List.getElem_toArray, List.getElem_cons_succ, List.getElem_cons_zero, List.setIfInBounds_toArray, List.set_cons_succ, List.set_cons_zero]
      refine wm_q2 (i := 15) (v := ?v5_16) (some 23) rfl rfl rfl HS2 (fun W HS => ?y5_16) ?_
      case y5_16 => (go_simp; try with_reducible rfl)
      simp only [Act.put, List.getElem_toArray, List.getElem_cons_succ, List.getElem_cons_zero, List.setIfInBounds_toArray, List.set_cons_succ, List.set_cons_zero]
      refine wm_q2 (i := 16) (v := ?v5_17) (some 24) rfl rfl rfl HS2 (fun W HS => ?y5_17) ?_
      case y5_17 => (go_simp; try with_reducible rfl)
      simp only [Act.put, List.getElem_toArray, List.getElem_cons_succ, List.getElem_cons_zero, List.setIfInBounds_toArray, List.set_cons_succ, List.set_cons_zero]
      refine wm_q2 (i := 17) (v := ?v5_18) (some 25) rfl rfl rfl HS2 (fun W HS => ?y5_18) ?_
      case y5_18 => (go_simp; try with_reducible rfl)
      simp only [Act.put, List.getElem_toArray, List.getElem_cons_succ, List.getElem_cons_zero, List.setIfInBounds_toArray, List.set_cons_succ, List.set_cons_zero]
      refine wm_e3 (i := 18) rfl ?_
      go_wp2_with (first
        | ((with_reducible refine st_ 109 ?_); go_must ((refine wl_store_cell _ _ _ _ _ _ _ _ _ rfl rfl HM .here sz109 rfl (by first | omega | (simp; done) | (simp [kc_size]; omega) | (simp only [Array.size_setIfInBounds, bytesC_size, List.length_append, List.length_replicate, List.length_set]; omega)) rfl ?_); clear HM; intro W HM; try (simp only [Act.eval, Array.getD_eq_getD_getElem?, List.getElem?_toArray, List.getElem?_cons_succ, List.getElem?_cons_zero, Option.getD_some, List.setIfInBounds_toArray, List.set_cons_succ, List.set_cons_zero] at HM))))
      refine ⟨HM.held (by simp), ?_⟩
      clear HS1 HS2
      have HS1 : True := trivial
      have HS2 : Held w W [.blk b1 (kc k) 23] := HM.held (by simp)
      refine wm_q2 (i := 19) (v := ?v5_19) (some 26) rfl rfl rfl HS2 (fun W HS => ?y5_19) ?_
      case y5_19 => (go_simp; try with_reducible rfl)
      simp only [Act.put, List.getElem_toArray, List.getElem_cons_succ, List.getElem_cons_zero, List.setIfInBounds_toArray, List.set_cons_succ, List.set_cons_zero]
      refine wm_e3 (i := 20) rfl ?_
      go_wp2_with (first
        | ((with_reducible refine st_ 109 ?_); go_must ((refine wl_store_cell _ _ _ _ _ _ _ _ _ rfl rfl HM .here sz109 rfl (by first | omega | (simp; done) | (simp [kc_size]; omega) | (simp only [Array.size_setIfInBounds, bytesC_size, List.length_append, List.length_replicate, List.length_set]; omega)) rfl ?_); clear HM; intro W HM; try (simp only [Act.eval, Array.getD_eq_getD_getElem?, List.getElem?_toArray, List.getElem?_cons_succ, List.getElem?_cons_zero, Option.getD_some, List.setIfInBounds_toArray, List.set_cons_succ, List.set_cons_zero] at HM))))
      refine ⟨HM.held (by simp), ?_⟩
      clear HS1 HS2
      have HS1 : True := trivial
      have HS2 : Held w W [.blk b1 (kc k) 23] := HM.held (by simp)
      refine wm_nilN ?_
      clear HS1 HS2
      go_wp2_with (fail)
      have e1 : wordL (k.toList.take (j + 1)) = orU (shlU (wordL (k.toList.take j)) 8) (ofB (k[j]'(by omega))) := by
        rw [wordL_take _ _ (by simp; omega)]; simp
      have e2 : wordL ((k.toList.drop 8).take (j + 1)) = orU (shlU (wordL ((k.toList.drop 8).take j)) 8) (ofB (k[8 + j]'(by omega))) := by
        rw [wordL_take _ _ (by simp; omega)]; simp
      rw [← e1, ← e2] at HM
      go_roundw
      case rel => exact ⟨j + 1, by omega, by go_num, HM⟩
      case measure => simp [intOf]; omega
    · obtain rfl : j = 8 := by omega
      have e2 : (k.toList.drop 8).take 8 = k.toList.drop 8 := List.take_of_length_le (by simp)
      rw [e2] at HM
      go_wp2_with (first
        | ((with_reducible refine ld_ 161 ?_); go_must (refine wl_load_blk _ _ _ _ _ _ rfl HM (by repeat first | exact List.mem_cons_self .. | refine List.mem_cons_of_mem _ ?_) Try.underlying161 rfl (by exact sz161) ?_))
        | ((with_reducible refine st_ 161 ?_); go_must ((refine wl_store_blk _ _ _ _ _ _ _ rfl rfl HM (.there .here) sz161 rfl (by simp [Value.oneCell']) ?_); clear HM; intro W HM)))
      refine ret1 rfl (by (exact res_row HM rfl m1 Try.underlying161 rfl sz161)) rfl ?_
      exact ⟨rfl, HM.base⟩

theorem bytes8_len (x : UInt64) : (bytes8 x).length = 8 := by simp [bytes8]
theorem bytes8_at (x : UInt64) (j : Nat) (h : j < 8) : (bytes8 x)[j]'(by rw [bytes8_len]; exact h) = toB (shrU x (56 - 8 * j)) := by simp [bytes8]
/-- The block after j rounds: j bytes of each half, then zeros. -/
def halfL (x : UInt64) (j : Nat) : List UInt8 := (bytes8 x).take j ++ List.replicate (8 - j) 0
theorem halfL_len (x : UInt64) (j : Nat) (h : j ≤ 8) : (halfL x j).length = 8 := by simp [halfL, bytes8_len]; omega
def partK (p : UInt64 × UInt64) (j : Nat) (h : j ≤ 8) : Key := ⟨(halfL p.1 j ++ halfL p.2 j).toArray, by simp [halfL_len _ _ h]⟩
theorem halfL_set (x : UInt64) (j : Nat) (h : j < 8) : (halfL x j).set j (toB (shrU x (56 - 8 * j))) = halfL x (j + 1) := by
  have hl := bytes8_len x
  have e : 8 - j = (8 - (j + 1)) + 1 := by omega
  unfold halfL
  rw [List.set_append_right _ _ (by simp; omega), List.take_succ_eq_append_getElem (by omega), bytes8_at x j h, e, List.replicate_succ]
  have : j - (List.take j (bytes8 x)).length = 0 := by simp; omega
  rw [this]
  simp
theorem kc_set (k : Key) (i : Nat) (h : i < 16) (b : UInt8) : (kc k).setIfInBounds i (.int .u8 b.toNat) = kc (k.set i b) := by
  have hk : ∀ l : List UInt8, l.flatMap encB = l.map (fun x => Value.int .u8 (x.toNat : Int)) := by
    intro l; induction l with
    | nil => rfl
    | cons x l ih => simp [encB, ih]
  simp only [kc, encK, hk]
  rw [List.setIfInBounds_toArray, Vector.toList_set, List.map_set]
theorem partK_set (p : UInt64 × UInt64) (j : Nat) (h : j < 8) : ((partK p j (by omega)).set j (toB (shrU p.1 (56 - 8 * j)))).set (8 + j) (toB (shrU p.2 (56 - 8 * j))) = partK p (j + 1) (by omega) := by
  apply Vector.toList_inj.1
  have h1 := halfL_set p.1 j h
  have h2 := halfL_set p.2 j h
  have hl := halfL_len p.1 j (by omega)
  have hl' := halfL_len p.1 (j + 1) (by omega)
  simp only [partK, Vector.toList_set, Vector.toList_mk]
  rw [List.set_append_left _ _ (by omega), h1, List.set_append_right _ _ (by omega), hl', show 8 + j - 8 = j by omega, h2]
theorem shrb (a : UInt64) (j : Nat) (h : j < 8) : (a.toNat : Int) / 2 ^ (56 - 8 * j) = ((shrU a (56 - 8 * j)).toNat : Int) := shr64 a (56 - 8 * j) (by omega)

set_option maxHeartbeats 400000 in
theorem block_c (p : UInt64 × UInt64) (w : World) :
    Calls Try.prog 109 #[pairV p] w fun e w' => e = .returned (.agg (kc (blockK p))) ∧ Mem w w' [] := by
  obtain ⟨x, y⟩ := p
  have HM := Mem.start w
  go_enter Try.func109, Try.ntmps109
  go_wp2_with (first
    | ((with_reducible refine s_ 1 ?_); go_must (refine wl_box (dst := some 1) (cs := #[.int .u64 x.toNat, .int .u64 y.toNat]) _ _ _ rfl rfl HM ?_; clear HM; intro b1 W HM))
    | ((with_reducible refine s_ 2 ?_); go_must (refine wl_alloc (dst := some 2) (cs := kc zeroKey) 23 _ Try.zeroValue23 kc_zero HM ?_; clear HM; intro b2 W HM))
    | ((with_reducible refine s_ 3 ?_); go_must (refine wl_alloc (dst := some 3) (cs := kc zeroKey) 23 _ Try.zeroValue23 kc_zero HM ?_; clear HM; intro b3 W HM)))
  go_loopw [5] (fun i wr => ∃ (j : Nat) (hj : j ≤ 8), i = .int .i64 j ∧ Mem w wr [.blk b3 (kc (partK (x, y) j hj)) 23, .blk b2 (kc zeroKey) 23, .blk b1 #[.int .u64 x.toNat, .int .u64 y.toNat] 161]) (fun i _ => 8 - (intOf i).toNat)
  case atStart => exact ⟨0, by omega, rfl, HM⟩
  case round =>
    clear HM
    obtain ⟨j, hj, rfl, HM⟩ := hrel
    by_cases hlt : j < 8
    · have hb1 : (j : Int) < 16 := by omega
      have hb2 : 8 + (j : Int) < 16 := by omega
      have hb3 : 0 ≤ 8 + (j : Int) := by omega
      have hb5 : IntKind.i64.wrap (8 + (j : Int)) = 8 + (j : Int) := by rw [IntKind.wrap_i64]; omega
      have hb4 : (8 + (j : Int)).toNat = 8 + j := by omega
      have hb6 : IntKind.i64.wrap (8 * (j : Int)) = 8 * (j : Int) := by rw [IntKind.wrap_i64]; omega
      have hb7 : IntKind.i64.wrap (56 - 8 * (j : Int)) = 56 - 8 * (j : Int) := by rw [IntKind.wrap_i64]; omega
      have hb8 : 0 ≤ 56 - 8 * (j : Int) := by omega
      have hb9 : (56 - 8 * (j : Int)).toNat = 56 - 8 * j := by omega
      have hq1 := shrb x j hlt
      have hq2 := shrb y j hlt
      go_wp2_with (fail)
      replace HM := HM.drew
      refine wp_region_mixN (fun W => Held w W [.blk b1 #[.int .u64 x.toNat, .int .u64 y.toNat] 161]) (fun W => Held w W [.blk b1 #[.int .u64 x.toNat, .int .u64 y.toNat] 161]) (.cons (2, 0) (.cons (2, 1) (.cons (2, 2) (.cons (2, 3) (.cons (2, 4) (.cons (2, 5) (.cons (2, 6) (.cons (2, 7) (.cons (2, 8) (.cons (2, 9) (.cons (2, 10) (.cons (2, 11) (.cons (2, 12) (.cons (2, 13) (.cons (2, 14) (.cons (2, 15) (.cons (2, 16) (.cons (2, 17) (.cons (0, 18) (.cons (2, 19) (.cons (0, 20) .nil))))))))))))))))))))) [] (by kernel_rfl) (by kernel_rfl) (by kernel_rfl) (fun W h => Held.weak h (by simp)) (HM.held (by simp)) ?_
      revert HM; generalize World.drew _ = W; intro HM
      have HS1 : Held w W [.blk b1 #[.int .u64 x.toNat, .int .u64 y.toNat] 161] := HM.held (by simp)
      have HS2 : Held w W [.blk b1 #[.int .u64 x.toNat, .int .u64 y.toNat] 161] := HM.held (by simp)
      refine wm_q2 (i := 0) (v := ?v5_1) (some 8) rfl rfl rfl HS2 (fun W HS => ?y5_1) ?_
      case y5_1 => (go_simp; try with_reducible rfl)
      simp only [Act.put, List.getElem_toArray, List.getElem_cons_succ, List.getElem_cons_zero, List.setIfInBounds_toArray, List.set_cons_succ, List.set_cons_zero]
      refine wm_q2 (i := 1) (v := ?v5_2) (some 9) rfl rfl rfl HS2 (fun W HS => ?y5_2) ?_
      case y5_2 => (go_simp; try with_reducible rfl)
      simp only [Act.put, List.getElem_toArray, List.getElem_cons_succ, List.getElem_cons_zero, List.setIfInBounds_toArray, List.set_cons_succ, List.set_cons_zero]
      refine wm_q2 (i := 2) (v := ?v5_3) (some 10) rfl rfl rfl HS2 (fun W HS => ?y5_3) ?_
      case y5_3 => (go_simp; try with_reducible rfl)
      simp only [Act.put, List.getElem_toArray, List.getElem_cons_succ, List.getElem_cons_zero, List.setIfInBounds_toArray, List.set_cons_succ, List.set_cons_zero]
      refine wm_q2 (i := 3) (v := ?v5_4) (some 11) rfl rfl rfl HS2 (fun W HS => ?y5_4) ?_
      case y5_4 => (go_simp; try with_reducible rfl)
      simp only [Act.put, List.getElem_toArray, List.getElem_cons_succ, List.getElem_cons_zero, List.setIfInBounds_toArray, List.set_cons_succ, List.set_cons_zero]
      refine wm_q2 (i := 4) (some 12) rfl rfl rfl HS2 (fun W HS => (by (exact ry_load_cell _ _ _ _ _ _ _ _ HS rfl m0 rfl Try.underlying109 rfl))) ?_
      simp only [Act.put, List.getElem_toArray, List.getElem_cons_succ, List.getElem_cons_zero, List.setIfInBounds_toArray, List.set_cons_succ, List.set_cons_zero]
      refine wm_q2 (i := 5) (v := ?v5_6) (some 13) rfl rfl rfl HS2 (fun W HS => ?y5_6) ?_
      case y5_6 => (go_simp; try with_reducible rfl)
      simp only [Act.put, List.getElem_toArray, List.getElem_cons_succ, List.getElem_cons_zero, List.setIfInBounds_toArray, List.set_cons_succ, List.set_cons_zero]
      refine wm_q2 (i := 6) (v := ?v5_7) (some 14) rfl rfl rfl HS2 (fun W HS => ?y5_7) ?_
      case y5_7 => (go_simp; try with_reducible rfl)
      simp only [Act.put, List.getElem_toArray, List.getElem_cons_succ, List.getElem_cons_zero, List.setIfInBounds_toArray, List.set_cons_succ, List.set_cons_zero]
      refine wm_q2 (i := 7) (v := ?v5_8) (some 15) rfl rfl rfl HS2 (fun W HS => ?y5_8) ?_
      case y5_8 => (go_simp; try with_reducible rfl)
      simp only [Act.put, List.getElem_toArray, List.getElem_cons_succ, List.getElem_cons_zero, List.setIfInBounds_toArray, List.set_cons_succ, List.set_cons_zero]
      refine wm_q2 (i := 8) (v := ?v5_9) (some 16) rfl rfl rfl HS2 (fun W HS => ?y5_9) ?_
      case y5_9 => (go_simp; try with_reducible rfl)
      simp only [Act.put, List.getElem_toArray, List.getElem_cons_succ, List.getElem_cons_zero, List.setIfInBounds_toArray, List.set_cons_succ, List.set_cons_zero]
      refine wm_q2 (i := 9) (v := ?v5_10) (some 17) rfl rfl rfl HS2 (fun W HS => ?y5_10) ?_
      case y5_10 => (go_simp; try with_reducible rfl)
      simp only [Act.put, List.getElem_toArray, List.getElem_cons_succ, List.getElem_cons_zero, List.setIfInBounds_toArray, List.set_cons_succ, List.set_cons_zero]
      refine wm_q2 (i := 10) (v := ?v5_11) (some 18) rfl rfl rfl HS2 (fun W HS => ?y5_11) ?_
      case y5_11 => (go_simp; try with_reducible rfl)
      simp only [Act.put, List.getElem_toArray, List.getElem_cons_succ, List.getElem_cons_zero, List.setIfInBounds_toArray, List.set_cons_succ, List.set_cons_zero]
      refine wm_q2 (i := 11) (some 19) rfl rfl rfl HS2 (fun W HS => (by (exact ry_load_cell _ _ _ _ _ _ _ _ HS rfl m0 rfl Try.underlying109 rfl))) ?_
      simp only [Act.put, List.getElem_toArray, List.getElem_cons_succ, List.getElem_cons_zero, List.setIfInBounds_toArray, List.set_cons_succ, List.set_cons_zero]
      refine wm_q2 (i := 12) (v := ?v5_13) (some 20) rfl rfl rfl HS2 (fun W HS => ?y5_13) ?_
      case y5_13 => (go_simp; try with_reducible rfl)
      simp only [Act.put, List.getElem_toArray, List.getElem_cons_succ, List.getElem_cons_zero, List.setIfInBounds_toArray, List.set_cons_succ, List.set_cons_zero]
      refine wm_q2 (i := 13) (v := ?v5_14) (some 21) rfl rfl rfl HS2 (fun W HS => ?y5_14) ?_
      case y5_14 => (go_simp; try with_reducible rfl)
      simp only [Act.put, List.getElem_toArray, List.getElem_cons_succ, List.getElem_cons_zero, List.setIfInBounds_toArray, List.set_cons_succ, List.set_cons_zero]
      refine wm_q2 (i := 14) (v := ?v5_15) (some 22) rfl rfl rfl HS2 (fun W HS => ?y5_15) ?_
      case y5_15 => (go_simp; try with_reducible rfl)
      simp only [Act.put, List.getElem_toArray, List.getElem_cons_succ, List.getElem_cons_zero, List.setIfInBounds_toArray, List.set_cons_succ, List.set_cons_zero]
      refine wm_q2 (i := 15) (v := ?v5_16) (some 23) rfl rfl rfl HS2 (fun W HS => ?y5_16) ?_
      case y5_16 => (go_simp; try with_reducible rfl)
      simp only [Act.put, List.getElem_toArray, List.getElem_cons_succ, List.getElem_cons_zero, List.setIfInBounds_toArray, List.set_cons_succ, List.set_cons_zero]
      refine wm_q2 (i := 16) (v := ?v5_17) (some 24) rfl rfl rfl HS2 (fun W HS => ?y5_17) ?_
      case y5_17 => (go_simp; try with_reducible rfl)
      simp only [Act.put, List.getElem_toArray, List.getElem_cons_succ, List.getElem_cons_zero, List.setIfInBounds_toArray, List.set_cons_succ, List.set_cons_zero]
      refine wm_q2 (i := 17) (v := ?v5_18) (some 25) rfl rfl rfl HS2 (fun W HS => ?y5_18) ?_
      case y5_18 => (go_simp; try with_reducible rfl)
      simp only [Act.put, List.getElem_toArray, List.getElem_cons_succ, List.getElem_cons_zero, List.setIfInBounds_toArray, List.set_cons_succ, List.set_cons_zero]
      refine wm_e0 (i := 18) rfl ?_
      go_wp2_with (first
        | ((with_reducible refine st_ 5 ?_); go_must ((refine wl_store_cell _ _ _ _ _ _ _ _ _ rfl rfl HM .here sz5 rfl (by first | omega | (simp; done) | (simp [kc_size]; omega) | (simp only [Array.size_setIfInBounds, bytesC_size, List.length_append, List.length_replicate, List.length_set]; omega)) rfl ?_); clear HM; intro W HM; try (simp only [Act.eval, Array.getD_eq_getD_getElem?, List.getElem?_toArray, List.getElem?_cons_succ, List.getElem?_cons_zero, Option.getD_some, List.setIfInBounds_toArray, List.set_cons_succ, List.set_cons_zero] at HM))))
      refine ⟨HM.held (by simp), ?_⟩
      clear HS1 HS2
      have HS1 : Held w W [.blk b1 #[.int .u64 x.toNat, .int .u64 y.toNat] 161] := HM.held (by simp)
      have HS2 : Held w W [.blk b1 #[.int .u64 x.toNat, .int .u64 y.toNat] 161] := HM.held (by simp)
      refine wm_q2 (i := 19) (v := ?v5_19) (some 26) rfl rfl rfl HS2 (fun W HS => ?y5_19) ?_
      case y5_19 => (go_simp; try with_reducible rfl)
      simp only [Act.put, List.getElem_toArray, List.getElem_cons_succ, List.getElem_cons_zero, List.setIfInBounds_toArray, List.set_cons_succ, List.set_cons_zero]
      refine wm_e0 (i := 20) rfl ?_
      go_wp2_with (first
        | ((with_reducible refine st_ 5 ?_); go_must ((refine wl_store_cell _ _ _ _ _ _ _ _ _ rfl rfl HM .here sz5 rfl (by first | omega | (simp; done) | (simp [kc_size]; omega) | (simp only [Array.size_setIfInBounds, bytesC_size, List.length_append, List.length_replicate, List.length_set]; omega)) rfl ?_); clear HM; intro W HM; try (simp only [Act.eval, Array.getD_eq_getD_getElem?, List.getElem?_toArray, List.getElem?_cons_succ, List.getElem?_cons_zero, Option.getD_some, List.setIfInBounds_toArray, List.set_cons_succ, List.set_cons_zero] at HM))))
      refine ⟨HM.held (by simp), ?_⟩
      clear HS1 HS2
      have HS1 : Held w W [.blk b1 #[.int .u64 x.toNat, .int .u64 y.toNat] 161] := HM.held (by simp)
      have HS2 : Held w W [.blk b1 #[.int .u64 x.toNat, .int .u64 y.toNat] 161] := HM.held (by simp)
      refine wm_nilN ?_
      clear HS1 HS2
      rw [kc_set _ _ (by omega), kc_set _ _ (by omega), partK_set (x, y) j hlt] at HM
      go_wp2_with (fail)
      go_roundw
      case rel => exact ⟨j + 1, by omega, by go_num, HM⟩
      case measure => simp [intOf]; omega
    · obtain rfl : j = 8 := by omega
      have e8 : partK (x, y) 8 hj = blockK (x, y) := by
        apply Vector.toList_inj.1
        simp [partK, blockK, halfL, bytes8_len, List.take_of_length_le]
      rw [e8] at HM
      go_wp2_with (first
        | ((with_reducible refine ld_ 23 ?_); go_must (refine wl_load_blk _ _ _ _ _ _ rfl HM (by repeat first | exact List.mem_cons_self .. | refine List.mem_cons_of_mem _ ?_) Try.underlying23 rfl (by rw [kc_size]; exact sz23) ?_))
        | ((with_reducible refine st_ 23 ?_); go_must ((refine wl_store_blk _ _ _ _ _ _ _ rfl rfl HM (.there .here) (by rw [kc_size]; exact sz23) (by simp only [kc_size]) (kc_one _) ?_); clear HM; intro W HM)))
      refine ret1 rfl (by (exact res_row HM rfl m1 Try.underlying23 rfl (by rw [kc_size]; exact sz23))) rfl ?_
      exact ⟨rfl, HM.base⟩

theorem shl56 (t : UInt8) : IntKind.u64.wrap (((ofB t).toNat : Int) * 72057594037927936) = ((shlU (ofB t) 56).toNat : Int) := shl64 (ofB t) 56 (by decide)
set_option maxHeartbeats 400000 in
theorem blockOf_c (t : UInt8) (c n : UInt64) (w : World) :
    Calls Try.prog 105 #[.int .u8 t.toNat, .int .u64 c.toNat, .int .u64 n.toNat] w fun e w' => e = .returned (.agg (kc (blockOfK t c n))) ∧ Mem w w' [] := by
  have HM := Mem.start w
  have h56 := shl56 t
  go_enter Try.func105, Try.ntmps105
  go_wp2_with (first
    | ((with_reducible refine s_ 6 ?_); go_must (refine wl_alloc (dst := some 6) (cs := kc zeroKey) 23 _ Try.zeroValue23 kc_zero HM ?_; clear HM; intro b6 W HM))
    | ((with_reducible refine st_ 23 ?_); go_must ((refine wl_store_blk _ _ _ _ _ _ _ rfl rfl HM .here (by rw [kc_size]; exact sz23) (by simp only [kc_size]) (kc_one _) ?_); clear HM; intro W HM))
    | (go_at_call 109; go_must (((with_reducible refine (block_c (orU (shlU (ofB t) 56) c, n) _).mono ?_)); rintro e W ⟨rfl, HM'⟩; replace HM := HM.keep HM'.below; clear HM')))
  refine ret1 rfl (by (exact res_row HM rfl m0 Try.underlying23 rfl (by rw [kc_size]; exact sz23))) rfl ?_
  exact ⟨rfl, HM.base⟩
end Go.Proofs.Ythdekionepfmdaa
