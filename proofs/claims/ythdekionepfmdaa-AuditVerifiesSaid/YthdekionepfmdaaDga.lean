/- Digests: combining keys, portions, what is filled up. -/
import Derived.Test.YthdekionepfmdaaCif
set_option linter.unusedVariables false
set_option linter.unusedSimpArgs false
set_option maxRecDepth 8000
namespace Go.Proofs.Ythdekionepfmdaa
open Go.RowKit

theorem xorK_self (a : Key) : xorK a a = zeroKey := by
  apply Vector.ext; intro i hi; simp [xorK, zeroKey, xorB]

section
attribute [local go_sem] keyEqI bx8
set_option maxHeartbeats 400000 in
theorem xor_c (a b : Key) (w : World) :
    Calls Try.prog 163 #[.agg (kc a), .agg (kc b)] w fun e w' => e = .returned (.agg (kc (xorK a b))) ∧ Mem w w' [] := by
  have HM := Mem.start w
  by_cases hab : a = b
  · subst hab
    go_enter Try.func163, Try.ntmps163
    go_wp2_with (first
      | ((with_reducible refine s_ 2 ?_); go_must (refine wl_box (dst := some 2) (cs := kc a) _ _ _ rfl rfl HM ?_; clear HM; intro b2 W HM))
      | ((with_reducible refine s_ 3 ?_); go_must (refine wl_box (dst := some 3) (cs := kc a) _ _ _ rfl rfl HM ?_; clear HM; intro b3 W HM))
      | ((with_reducible refine s_ 4 ?_); go_must (refine wl_alloc (dst := some 4) (cs := kc zeroKey) 23 _ Try.zeroValue23 kc_zero HM ?_; clear HM; intro b4 W HM))
      | ((with_reducible refine s_ 9 ?_); go_must (refine wl_build (dst := some 9) _ _ _ _ (run_build_key0) rfl ?_))
      | ((with_reducible refine ld_ 23 ?_); go_must (refine wl_load_blk _ _ _ _ _ _ rfl HM (by repeat first | exact List.mem_cons_self .. | refine List.mem_cons_of_mem _ ?_) Try.underlying23 rfl (by rw [kc_size]; exact sz23) ?_))
      | ((with_reducible refine st_ 23 ?_); go_must ((refine wl_store_blk _ _ _ _ _ _ _ rfl rfl HM .here (by rw [kc_size]; exact sz23) (by simp only [kc_size]) (kc_one _) ?_); clear HM; intro W HM)))
    refine ret1 rfl (by (exact res_row HM rfl m0 Try.underlying23 rfl (by rw [kc_size]; exact sz23))) rfl ?_
    exact ⟨by rw [xorK_self], HM.base⟩
  · have hab' := hab
    go_enter Try.func163, Try.ntmps163
    go_wp2_with (first
      | ((with_reducible refine s_ 2 ?_); go_must (refine wl_box (dst := some 2) (cs := kc a) _ _ _ rfl rfl HM ?_; clear HM; intro b2 W HM))
      | ((with_reducible refine s_ 3 ?_); go_must (refine wl_box (dst := some 3) (cs := kc b) _ _ _ rfl rfl HM ?_; clear HM; intro b3 W HM))
      | ((with_reducible refine s_ 4 ?_); go_must (refine wl_alloc (dst := some 4) (cs := kc zeroKey) 23 _ Try.zeroValue23 kc_zero HM ?_; clear HM; intro b4 W HM))
      | ((with_reducible refine ld_ 23 ?_); go_must (refine wl_load_blk _ _ _ _ _ _ rfl HM (by repeat first | exact List.mem_cons_self .. | refine List.mem_cons_of_mem _ ?_) Try.underlying23 rfl (by rw [kc_size]; exact sz23) ?_)))
    go_loopw [5, 10] (fun q i wr => ∃ j : Nat, j ≤ 16 ∧ i = .int .i64 j ∧ Mem w wr [.blk b4 (kc zeroKey) 23, .blk b3 (kc b) 23, .blk b2 (kc (xorTo a b j)) 23])
      (fun _ i _ => 16 - (intOf i).toNat)
    case atStart => exact ⟨0, by omega, rfl, by rw [xorTo_zero]; exact HM⟩
    case round =>
      clear HM
      obtain ⟨j, hj, rfl, HM⟩ := hrel
      by_cases hlt : j < 16
      · have hca : (kc (xorTo a b j))[j]? = some (.int .u8 (a[j]'hlt).toNat) := by rw [kc_at _ j hlt, xorTo_at]
        have hb1 : (j : Int) < 16 := by omega
        go_wp2_with (fail)
        replace HM := HM.drew
        refine wp_region_mixN (fun W => Held w W [.blk b3 (kc b) 23, .blk b2 (kc (xorTo a b j)) 23]) (fun W => Held w W [.blk b3 (kc b) 23]) (.cons (2, 0) (.cons (2, 1) (.cons (1, 2) (.cons (2, 3) (.cons (2, 4) (.cons (2, 5) (.cons (2, 6) (.cons (2, 7) (.cons (3, 8) .nil))))))))) [8] (by kernel_rfl) (by kernel_rfl) (by kernel_rfl) (fun W h => Held.weak h (by simp)) (HM.held (by simp)) ?_
        revert HM; generalize World.drew _ = W; intro HM
        have HS1 : Held w W [.blk b3 (kc b) 23, .blk b2 (kc (xorTo a b j)) 23] := HM.held (by simp)
        have HS2 : Held w W [.blk b3 (kc b) 23] := HM.held (by simp)
        refine wm_q2 (i := 0) (v := ?v6_1) (some 13) rfl rfl rfl HS2 (fun W HS => ?y6_1) ?_
        case y6_1 => (go_simp; try with_reducible rfl)
        simp only [Act.put, List.getElem_toArray, List.getElem_cons_succ, List.getElem_cons_zero, List.setIfInBounds_toArray, List.set_cons_succ, List.set_cons_zero]
        refine wm_q2 (i := 1) (v := ?v6_2) (some 14) rfl rfl rfl HS2 (fun W HS => ?y6_2) ?_
        case y6_2 => (go_simp; try with_reducible rfl)
        simp only [Act.put, List.getElem_toArray, List.getElem_cons_succ, List.getElem_cons_zero, List.setIfInBounds_toArray, List.set_cons_succ, List.set_cons_zero]
        refine wm_q1 (i := 2) (some 15) rfl rfl rfl HS1 (fun W HS => (by ((refine ry_load_cell _ _ _ _ _ _ (.int .u8 (a[j]'hlt).toNat) _ HS ?_ m1 (hca) Try.underlying5 rfl; rfl)))) ?_
        simp only [Act.put, List.getElem_toArray, List.getElem_cons_succ, List.getElem_cons_zero, List.setIfInBounds_toArray, List.set_cons_succ, List.set_cons_zero]
        refine wm_q2 (i := 3) (v := ?v6_4) (some 16) rfl rfl rfl HS2 (fun W HS => ?y6_4) ?_
        case y6_4 => (go_simp; try with_reducible rfl)
        simp only [Act.put, List.getElem_toArray, List.getElem_cons_succ, List.getElem_cons_zero, List.setIfInBounds_toArray, List.set_cons_succ, List.set_cons_zero]
        refine wm_q2 (i := 4) (v := ?v6_5) (some 17) rfl rfl rfl HS2 (fun W HS => ?y6_5) ?_
        case y6_5 => (go_simp; try with_reducible rfl)
        simp only [Act.put, List.getElem_toArray, List.getElem_cons_succ, List.getElem_cons_zero, List.setIfInBounds_toArray, List.set_cons_succ, List.set_cons_zero]
        refine wm_q2 (i := 5) (some 18) rfl rfl rfl HS2 (fun W HS => (by ((refine ry_load_cell _ _ _ _ _ _ (.int .u8 (b[j]'hlt).toNat) _ HS ?_ m0 (kc_at b j hlt) Try.underlying5 rfl; rfl)))) ?_
        simp only [Act.put, List.getElem_toArray, List.getElem_cons_succ, List.getElem_cons_zero, List.setIfInBounds_toArray, List.set_cons_succ, List.set_cons_zero]
        refine wm_q2 (i := 6) (v := ?v6_7) (some 19) rfl rfl rfl HS2 (fun W HS => ?y6_7) ?_
        case y6_7 => (go_simp; try with_reducible rfl)
        simp only [Act.put, List.getElem_toArray, List.getElem_cons_succ, List.getElem_cons_zero, List.setIfInBounds_toArray, List.set_cons_succ, List.set_cons_zero]
        refine wm_q2 (i := 7) (v := ?v6_8) (some 20) rfl rfl rfl HS2 (fun W HS => ?y6_8) ?_
        case y6_8 => (go_simp; try with_reducible rfl)
        simp only [Act.put, List.getElem_toArray, List.getElem_cons_succ, List.getElem_cons_zero, List.setIfInBounds_toArray, List.set_cons_succ, List.set_cons_zero]
        refine wm_e3 (i := 8) rfl ?_
        go_wp2_with (first
          | ((with_reducible refine st_ 5 ?_); go_must ((refine wl_store_cell _ _ _ _ _ _ _ _ _ rfl rfl HM (.there (.there .here)) sz5 rfl (by first | omega | (simp; done) | (simp [kc_size]; omega) | (simp only [Array.size_setIfInBounds, bytesC_size, List.length_append, List.length_replicate, List.length_set]; omega)) rfl ?_); clear HM; intro W HM; try (simp only [Act.eval, Array.getD_eq_getD_getElem?, List.getElem?_toArray, List.getElem?_cons_succ, List.getElem?_cons_zero, Option.getD_some, List.setIfInBounds_toArray, List.set_cons_succ, List.set_cons_zero] at HM))))
        refine ⟨HM.held (by simp), ?_⟩
        clear HS1 HS2
        have HS1 : True := trivial
        have HS2 : Held w W [.blk b3 (kc b) 23] := HM.held (by simp)
        refine wm_nilN ?_
        clear HS1 HS2
        go_wp2_with (fail)
        rw [kc_set _ _ hlt, xorTo_set a b j hlt] at HM
        go_roundw
        case rel => exact ⟨j + 1, by omega, by go_num, HM⟩
        case measure => simp [intOf]; omega
      · obtain rfl : j = 16 := by omega
        rw [xorTo_end] at HM
        go_wp2_with (first
          | ((with_reducible refine ld_ 23 ?_); go_must (refine wl_load_blk _ _ _ _ _ _ rfl HM (by repeat first | exact List.mem_cons_self .. | refine List.mem_cons_of_mem _ ?_) Try.underlying23 rfl (by rw [kc_size]; exact sz23) ?_))
          | ((with_reducible refine st_ 23 ?_); go_must ((refine wl_store_blk _ _ _ _ _ _ _ rfl rfl HM .here (by rw [kc_size]; exact sz23) (by simp only [kc_size]) (kc_one _) ?_); clear HM; intro W HM)))
        refine ret1 rfl (by (exact res_row HM rfl m0 Try.underlying23 rfl (by rw [kc_size]; exact sz23))) rfl ?_
        exact ⟨rfl, HM.base⟩
end

/-- One portion more. -/
def digStep (s p : Key) : Key := xorK (encryptK p s) s
set_option maxHeartbeats 400000 in
theorem hash1_c (s p : Key) (w : World) :
    Calls Try.prog 162 #[.agg (kc s), .agg (kc p)] w fun e w' => e = .returned (.agg (kc (digStep s p))) ∧ Mem w w' [] := by
  have HM := Mem.start w
  go_enter Try.func162, Try.ntmps162
  go_wp2_with (first
    | ((with_reducible refine s_ 2 ?_); go_must (refine wl_box (dst := some 2) (cs := kc s) _ _ _ rfl rfl HM ?_; clear HM; intro b2 W HM))
    | ((with_reducible refine s_ 3 ?_); go_must (refine wl_box (dst := some 3) (cs := kc p) _ _ _ rfl rfl HM ?_; clear HM; intro b3 W HM))
    | ((with_reducible refine s_ 4 ?_); go_must (refine wl_alloc (dst := some 4) (cs := kc zeroKey) 23 _ Try.zeroValue23 kc_zero HM ?_; clear HM; intro b4 W HM)))
  replace HM := HM.drew
  refine wp_region_mixN (fun W => Held w W [.blk b3 (kc p) 23, .blk b2 (kc s) 23]) (fun W => Held w W [.blk b3 (kc p) 23, .blk b2 (kc s) 23]) (.cons (2, 0) (.cons (2, 1) (.cons (2, 3) (.cons (0, 2) (.cons (0, 4) (.cons (0, 5) .nil)))))) [] (by kernel_rfl) (by kernel_rfl) (by kernel_rfl) (fun W h => Held.weak h (by simp)) (HM.held (by simp)) ?_
  revert HM; generalize World.drew _ = W; intro HM
  have HS1 : Held w W [.blk b3 (kc p) 23, .blk b2 (kc s) 23] := HM.held (by simp)
  have HS2 : Held w W [.blk b3 (kc p) 23, .blk b2 (kc s) 23] := HM.held (by simp)
  refine wm_q2 (i := 0) (some 5) rfl rfl rfl HS2 (fun W HS => (by ((refine ry_load_blk _ _ _ _ _ _ HS ?_ m0 Try.underlying23 rfl (by rw [kc_size]; exact sz23); rfl)))) ?_
  simp only [Act.put, List.getElem_toArray, List.getElem_cons_succ, List.getElem_cons_zero, List.setIfInBounds_toArray, List.set_cons_succ, List.set_cons_zero]
  refine wm_q2 (i := 1) (some 6) rfl rfl rfl HS2 (fun W HS => (by ((refine ry_load_blk _ _ _ _ _ _ HS ?_ m1 Try.underlying23 rfl (by rw [kc_size]; exact sz23); rfl)))) ?_
  simp only [Act.put, List.getElem_toArray, List.getElem_cons_succ, List.getElem_cons_zero, List.setIfInBounds_toArray, List.set_cons_succ, List.set_cons_zero]
  refine wm_q2 (i := 3) (some 8) rfl rfl rfl HS2 (fun W HS => (by ((refine ry_load_blk _ _ _ _ _ _ HS ?_ m1 Try.underlying23 rfl (by rw [kc_size]; exact sz23); rfl)))) ?_
  simp only [Act.put, List.getElem_toArray, List.getElem_cons_succ, List.getElem_cons_zero, List.setIfInBounds_toArray, List.set_cons_succ, List.set_cons_zero]
  refine wm_e0 (i := 2) rfl ?_
  go_wp2_with (first
    | (go_at_call 53; go_must (((with_reducible refine (encrypt_c _ _ _).mono ?_)); rintro e W ⟨rfl, HM'⟩; replace HM := HM.keep HM'.below; clear HM')))
  refine ⟨HM.held (by simp), ?_⟩
  clear HS1 HS2
  have HS1 : Held w W [.blk b3 (kc p) 23, .blk b2 (kc s) 23] := HM.held (by simp)
  have HS2 : Held w W [.blk b3 (kc p) 23, .blk b2 (kc s) 23] := HM.held (by simp)
  refine wm_e0 (i := 4) rfl ?_
  go_wp2_with (first
    | (go_at_call 163; go_must (((with_reducible refine (xor_c _ _ _).mono ?_)); rintro e W ⟨rfl, HM'⟩; replace HM := HM.keep HM'.below; clear HM')))
  refine ⟨HM.held (by simp), ?_⟩
  clear HS1 HS2
  have HS1 : Held w W [.blk b3 (kc p) 23, .blk b2 (kc s) 23] := HM.held (by simp)
  have HS2 : Held w W [.blk b3 (kc p) 23, .blk b2 (kc s) 23] := HM.held (by simp)
  refine wm_e0 (i := 5) rfl ?_
  go_wp2_with (first
    | ((with_reducible refine st_ 23 ?_); go_must ((refine wl_store_blk _ _ _ _ _ _ _ rfl rfl HM .here (by rw [kc_size]; exact sz23) (by simp only [kc_size]) (kc_one _) ?_); clear HM; intro W HM)))
  refine ⟨HM.held (by simp), ?_⟩
  clear HS1 HS2
  have HS1 : Held w W [.blk b3 (kc p) 23, .blk b2 (kc s) 23] := HM.held (by simp)
  have HS2 : Held w W [.blk b3 (kc p) 23, .blk b2 (kc s) 23] := HM.held (by simp)
  refine wm_nilN ?_
  clear HS1 HS2
  go_wp2_with (fail)
  refine ret1 rfl (by (exact res_row HM rfl m0 Try.underlying23 rfl (by rw [kc_size]; exact sz23))) rfl ?_
  exact ⟨rfl, HM.base⟩

/-- The state behind i portions of a text. -/
def digTo (s : Key) (l : List UInt8) (i : Nat) : Key := (List.range i).foldl (fun s i => digStep s (keyL (l.drop (16 * i)))) s
theorem digTo_zero (s : Key) (l : List UInt8) : digTo s l 0 = s := rfl
theorem digTo_succ (s : Key) (l : List UInt8) (i : Nat) : digTo s l (i + 1) = digStep (digTo s l i) (keyL (l.drop (16 * i))) := by
  simp [digTo, List.range_succ]
theorem keyL_copy (l : List UInt8) : (((l.take 16).flatMap encB) ++ (kc zeroKey).toList.drop (min l.length 16)).toArray = kc (keyL l) := by
  apply Array.ext_getElem?
  intro i
  rcases Nat.lt_or_ge i 16 with hi | hi
  · rw [kc_at _ i hi, List.getElem?_toArray, flatB]
    rcases Nat.lt_or_ge i l.length with hl | hl
    · rw [List.getElem?_append_left (by simp; omega)]
      simp [keyL, hi, hl]
    · have e : min l.length 16 = l.length := by omega
      rw [List.getElem?_append_right (by simp; omega), e]
      have h0 := kc_at zeroKey i hi
      rw [← Array.getElem?_toList] at h0
      rw [List.getElem?_drop]
      have e2 : l.length + (i - (List.map (fun x => Value.int .u8 (x.toNat : Int)) (l.take 16)).length) = i := by simp; omega
      rw [e2, h0]
      simp [keyL, zeroKey, hl]
  · rw [List.getElem?_toArray, List.getElem?_eq_none (by simp [flatB, kc_size]; omega), Array.getElem?_eq_none (by rw [kc_size]; exact hi)]

def lenOf : Value → Nat
  | .slice _ n _ => n
  | _ => 0
theorem lenOf_rd {α : Type} {enc : α → List Value} {size : Nat} {w : World} {v : Value} {l : List α} (h : RdL enc size w v l) : lenOf v = l.length := by
  obtain ⟨A, c, rfl, _⟩ := h; rfl
set_option maxHeartbeats 800000 in
theorem fold_c (s : Key) (v : Value) (l : List UInt8) (n : Nat) (w : World) (hR : RdL encB 1 w v l) (hn : l.length = 16 * n) (hl : l.length ≤ 1073741824) :
    Calls Try.prog 161 #[.agg (kc s), v, .func (.func 162) #[] #[]] w fun e w' => e = .returned (.agg (kc (digTo s l n))) ∧ Mem w w' [] := by
  have HM := Mem.start w
  go_enter Try.func161, Try.ntmps161
  go_wp2_with (first
    | ((with_reducible refine s_ 3 ?_); go_must (refine wl_box (dst := some 3) (cs := kc s) _ _ _ rfl rfl HM ?_; clear HM; intro b3 W HM))
    | ((with_reducible refine s_ 6 ?_); go_must (refine wl_alloc (dst := some 6) (cs := kc zeroKey) 23 _ Try.zeroValue23 kc_zero HM ?_; clear HM; intro b6 W HM)))
  simp only [Act.put, List.getElem_toArray, List.getElem_cons_succ, List.getElem_cons_zero, List.setIfInBounds_toArray, List.set_cons_succ, List.set_cons_zero]
  go_loopw [1, 7] (fun b q wr => ∃ i : Nat, i ≤ n ∧ RdL encB 1 w b (l.drop (16 * i)) ∧ Mem w wr [.blk b6 (kc zeroKey) 23, .blk b3 (kc (digTo s l i)) 23])
    (fun b _ _ => lenOf b)
  case atStart => exact ⟨0, by omega, by simpa using hR, HM⟩
  case round =>
    clear HM
    obtain ⟨i, hi, hRj, HM⟩ := hrel
    have hlen : (l.drop (16 * i)).length = 16 * n - 16 * i := by simp [hn]
    by_cases hlt : i < n
    · have hb1 : (0 : Int) < ((l.drop (16 * i)).length : Int) := by omega
      have hmin : min (l.drop (16 * i)).length 16 = 16 := by omega
      go_wp2_with (first
        | ((with_reducible refine s_ 9 ?_); go_must ((refine wl_len (dst := some 9) _ _ _ _ 5 Try.underlying24 rfl (hRj) ?_)))
        | ((with_reducible refine s_ 7 ?_); go_must (refine wl_alloc (dst := some 7) (cs := kc zeroKey) 23 _ Try.zeroValue23 kc_zero HM ?_; clear HM; intro b7 W HM))
        | ((with_reducible refine s_ 14 ?_); go_must ((refine wl_copy (dst := some 14) _ _ _ _ _ _ _ _ _ _ _ (l.drop (16 * i)) Try.underlying24 sz5 encB_len encB_one rfl rfl HM .here (hRj.mem HM) (by rw [kc_size]; decide) ?_; clear HM; intro W HM; (try dsimp only at HM); rw [keyL_copy] at HM; rw [hmin])))
        | ((with_reducible refine s_ 15 ?_); go_must ((refine wl_slice_lo (dst := some 15) _ 5 _ _ _ _ _ _ encB_len Try.underlying24 sz5 rfl rfl (hRj) (by omega) (by omega) ?_); intro v15 hv15))
        | ((with_reducible refine ld_ 23 ?_); go_must (refine wl_load_blk _ _ _ _ _ _ rfl HM (by repeat first | exact List.mem_cons_self .. | refine List.mem_cons_of_mem _ ?_) Try.underlying23 rfl (by rw [kc_size]; exact sz23) ?_))
        | ((with_reducible refine st_ 23 ?_); go_must ((refine wl_store_blk _ _ _ _ _ _ _ rfl rfl HM (.there (.there .here)) (by rw [kc_size]; exact sz23) (by simp only [kc_size]) (kc_one _) ?_); clear HM; intro W HM))
        | (go_at_call 162; go_must (((with_reducible refine (hash1_c _ _ _).mono ?_)); rintro e W ⟨rfl, HM'⟩; replace HM := HM.keep HM'.below; clear HM')))
      rw [List.drop_drop] at hv15
      have e16 : 16 * i + ((16 : Nat) : Int).toNat = 16 * (i + 1) := by omega
      rw [e16] at hv15
      rw [← digTo_succ] at HM
      simp only [Act.put, List.getElem_toArray, List.getElem_cons_succ, List.getElem_cons_zero, List.setIfInBounds_toArray, List.set_cons_succ, List.set_cons_zero]
      go_roundw
      case rel => exact ⟨i + 1, by omega, hv15, HM.tail⟩
      case measure => rw [lenOf_rd hv15, lenOf_rd hRj]; simp; omega
    · obtain rfl : i = n := by omega
      have hb1 : ¬ (0 : Int) < ((l.drop (16 * i)).length : Int) := by omega
      go_wp2_with (first
        | ((with_reducible refine s_ 9 ?_); go_must ((refine wl_len (dst := some 9) _ _ _ _ 5 Try.underlying24 rfl (hRj) ?_)))
        | ((with_reducible refine ld_ 23 ?_); go_must (refine wl_load_blk _ _ _ _ _ _ rfl HM (by repeat first | exact List.mem_cons_self .. | refine List.mem_cons_of_mem _ ?_) Try.underlying23 rfl (by rw [kc_size]; exact sz23) ?_))
        | ((with_reducible refine st_ 23 ?_); go_must ((refine wl_store_blk _ _ _ _ _ _ _ rfl rfl HM .here (by rw [kc_size]; exact sz23) (by simp only [kc_size]) (kc_one _) ?_); clear HM; intro W HM)))
      refine ret1 rfl (by (exact res_row HM rfl m0 Try.underlying23 rfl (by rw [kc_size]; exact sz23))) rfl ?_
      exact ⟨rfl, HM.base⟩
end Go.Proofs.Ythdekionepfmdaa
