/- The reference's cipher: encryption, decryption, streams. -/
import Derived.Test.YthdekionepfmdaaRfa
set_option linter.unusedVariables false
set_option linter.unusedSimpArgs false
namespace Go.Proofs.Ythdekionepfmdaa
open Go.RowKit
theorem addU_comm (a b : UInt64) : addU a b = addU b a := UInt64.add_comm a b
theorem xorU_comm (a b : UInt64) : xorU a b = xorU b a := UInt64.xor_comm a b
def encQ (b : UInt64) : List Value := [.int .u64 b.toNat]
theorem encQ_len (b : UInt64) : (encQ b).length = 1 := rfl
theorem encQ_one (b : UInt64) : ∀ u ∈ encQ b, u.oneCell' = true := by
  intro u hu; simp only [encQ, List.mem_singleton] at hu; subst hu; rfl

/-- The round keys, the first n + 1. -/
def keysTo (k : Key) (n : Nat) : List UInt64 := (List.range n).map fun i => (keyAt k i).2
theorem keysTo_len (k : Key) (n : Nat) : (keysTo k n).length = n := by simp [keysTo]
theorem keysTo_succ (k : Key) (n : Nat) : keysTo k (n + 1) = keysTo k n ++ [(keyAt k n).2] := by simp [keysTo, List.range_succ]
theorem keysTo_32 (k : Key) : keysTo k 32 = keyList k := rfl

section
attribute [local go_sem] bx64 bo64 w64_8 wa64 ws64 w8_64
set_option maxHeartbeats 400000 in
theorem roundKeys_c (k : Key) (w : World) :
    Calls Try.prog 116 #[.agg (kc k)] w fun e w' => ∃ v, e = .returned v ∧ Mem w w' [.row v 109 1 32 ((keyList k).flatMap encQ)] := by
  have HM := Mem.start w
  go_enter Try.func116, Try.ntmps116
  go_wp2_with (first
    | ((with_reducible refine s_ 1 ?_); go_must (refine wl_box (dst := some 1) (cs := kc k) _ _ _ rfl rfl HM ?_; clear HM; intro b1 W HM))
    | ((with_reducible refine s_ 13 ?_); go_must (refine wl_buildSlice (dst := some 13) (cs := #[.int .u64 (wordsK k).2.toNat]) _ _ _ 109 1 _ Try.underlying172 Try.sizeOf109 Try.zeroValue109 (by decide) (by simp [Instr.fill, Act.eval, Act.put, Value.cells, undef, ← List.toArray_range, List.range_succ]) HM ?_; clear HM; intro b13 W HM; replace HM := HM.toRow 1 1 .here rfl (by simp [maxLen])))
    | ((with_reducible refine ld_ 23 ?_); go_must (refine wl_load_blk _ _ _ _ _ _ rfl HM (by repeat first | exact List.mem_cons_self .. | refine List.mem_cons_of_mem _ ?_) Try.underlying23 rfl (by rw [kc_size]; exact sz23) ?_))
    | (go_at_call 115; go_must (((with_reducible refine (words_c _ _).mono ?_)); rintro e W ⟨rfl, HM'⟩; replace HM := HM.keep HM'.below; clear HM')))
  go_loopw [3, 4, 5, 6] (fun l at_ o c wr => ∃ j : Nat, j ≤ 31 ∧ c = .int .i64 j ∧ l = .int .u64 (keyAt k j).1.toNat ∧ at_ = .int .u64 (keyAt k j).2.toNat ∧ Mem w wr [.row o 109 1 (j + 1) ((keysTo k (j + 1)).flatMap encQ)])
    (fun _ _ _ c _ => 31 - (intOf c).toNat)
  case atStart => exact ⟨0, by omega, rfl, rfl, rfl, HM.only m0⟩
  case round =>
    clear HM
    obtain ⟨j, hj, rfl, rfl, rfl, HM⟩ := hrel
    by_cases hlt : j < 31
    · have hw : (j : Int) % 18446744073709551616 = (j : Int) := by omega
      have hj2 : (j : Int) = ((UInt64.ofNat j).toNat : Int) := by rw [UInt64.toNat_ofNat']; omega
      have e1 : xorU (addU (keyAt k j).2 (rotl (keyAt k j).1 56)) (UInt64.ofNat j) = (keyAt k (j + 1)).1 := by rw [addU_comm]; rfl
      have e3 := bx64 (addU (keyAt k j).2 (rotl (keyAt k j).1 56)) (UInt64.ofNat j)
      rw [e1, ← hj2] at e3
      clear hj2
      have e2 : xorU (rotl (keyAt k j).2 3) (keyAt k (j + 1)).1 = (keyAt k (j + 1)).2 := rfl
      go_wp2_with (first
        | ((with_reducible refine s_ 31 ?_); go_must (refine wl_buildSlice (dst := some 31) (cs := #[.int .u64 (keyAt k (j + 1)).2.toNat]) _ _ _ 109 1 _ Try.underlying172 Try.sizeOf109 Try.zeroValue109 (by decide) (by simp [Instr.fill, Act.eval, Act.put, Value.cells, undef, ← List.toArray_range, List.range_succ]) HM ?_; clear HM; intro b31 W HM))
        | ((with_reducible refine s_ 32 ?_); go_must (refine wl_append (dst := some 32) (enc := encQ) _ _ _ _ _ _ _ _ _ _ _ ([(keyAt k (j + 1)).2]) Try.underlying172 inf109 rfl (by decide) encQ_len encQ_one HM (.there .here) (RdL.of_blk (HM.blk m0) _ 1 rfl rfl (by decide)) rfl rfl (by decide) (by first | omega | (simp; omega)) ?_; clear HM; intro v32 W HM; try dsimp only at HM))
        | (go_at_call 117; go_must (((with_reducible refine (rotr_8 _ _).mono ?_)); rintro e W ⟨rfl, HM'⟩; replace HM := HM.keep HM'.below; clear HM'))
        | (go_at_call 118; go_must (((with_reducible refine (rotl_3 _ _).mono ?_)); rintro e W ⟨rfl, HM'⟩; replace HM := HM.keep HM'.below; clear HM')))
      rw [List.length_singleton, show ∀ x, List.flatMap encQ (keysTo k (j + 1)) ++ List.flatMap encQ [x] = List.flatMap encQ (keysTo k (j + 1) ++ [x]) from fun x => List.flatMap_append.symm, ← keysTo_succ] at HM
      go_roundw
      case rel => exact ⟨j + 1, by omega, by go_num, rfl, rfl, HM.only m1⟩
      case measure => simp [intOf]; omega
    · obtain rfl : j = 31 := by omega
      go_wp2_with (fail)
      refine ret1 rfl (res_tmp rfl) rfl ?_
      exact ⟨_, rfl, HM⟩

theorem keysTo_at (k : Key) (n j : Nat) (h : j < n) : (keysTo k n)[j]? = some (keyAt k j).2 := by simp [keysTo, h]
/-- The words after j rounds. -/
def encAt (k b : Key) (j : Nat) : UInt64 × UInt64 := (keysTo k j).foldl roundF (wordsK b)
theorem encAt_zero (k b : Key) : encAt k b 0 = wordsK b := rfl
theorem encAt_succ (k b : Key) (j : Nat) : encAt k b (j + 1) = roundF (encAt k b j) (keyAt k j).2 := by rw [encAt, keysTo_succ, List.foldl_append]; rfl
theorem encAt_end (k b : Key) : blockK (encAt k b 32) = encryptK k b := rfl

set_option maxHeartbeats 400000 in
theorem rencrypt_c (k b : Key) (w : World) :
    Calls Try.prog 56 #[.agg (kc k), .agg (kc b)] w fun e w' => e = .returned (.agg (kc (encryptK k b))) ∧ Mem w w' [] := by
  have HM := Mem.start w
  go_enter Try.func56, Try.ntmps56
  go_wp2_with (first
    | ((with_reducible refine s_ 2 ?_); go_must (refine wl_box (dst := some 2) (cs := kc k) _ _ _ rfl rfl HM ?_; clear HM; intro b2 W HM))
    | ((with_reducible refine s_ 3 ?_); go_must (refine wl_box (dst := some 3) (cs := kc b) _ _ _ rfl rfl HM ?_; clear HM; intro b3 W HM))
    | ((with_reducible refine s_ 4 ?_); go_must (refine wl_alloc (dst := some 4) (cs := kc zeroKey) 23 _ Try.zeroValue23 kc_zero HM ?_; clear HM; intro b4 W HM))
    | ((with_reducible refine ld_ 23 ?_); go_must (refine wl_load_blk _ _ _ _ _ _ rfl HM (by repeat first | exact List.mem_cons_self .. | refine List.mem_cons_of_mem _ ?_) Try.underlying23 rfl (by rw [kc_size]; exact sz23) ?_))
    | (go_at_call 115; go_must (((with_reducible refine (words_c _ _).mono ?_)); rintro e W ⟨rfl, HM'⟩; replace HM := HM.keep HM'.below; clear HM'))
    | (go_at_call 116; go_must (((with_reducible refine (roundKeys_c _ _).mono ?_)); rintro e W ⟨v7, rfl, HM'⟩; replace HM := HM.join HM'; clear HM'; simp only [List.cons_append, List.nil_append] at HM)))
  go_loopw [5, 6, 8] (fun x y c wr => ∃ j : Nat, j ≤ 32 ∧ c = .int .i64 j ∧ x = .int .u64 (encAt k b j).1.toNat ∧ y = .int .u64 (encAt k b j).2.toNat ∧ Mem w wr [.row v7 109 1 32 ((keyList k).flatMap encQ), .blk b4 (kc zeroKey) 23, .blk b3 (kc b) 23, .blk b2 (kc k) 23])
    (fun _ _ c _ => 32 - (intOf c).toNat)
  case atStart => exact ⟨0, by omega, rfl, rfl, rfl, HM⟩
  case round =>
    clear HM
    obtain ⟨j, hj, rfl, rfl, rfl, HM⟩ := hrel
    by_cases hlt : j < 32
    · have hx : (keyList k)[j]? = some (keyAt k j).2 := by rw [← keysTo_32]; exact keysTo_at k 32 j hlt
      have hlen : (keyList k).length = 32 := by simp [keyList]
      have e1 : xorU (addU (rotl (encAt k b j).1 56) (encAt k b j).2) (keyAt k j).2 = (encAt k b (j + 1)).1 := by rw [encAt_succ]; rfl
      have e2 : xorU (rotl (encAt k b j).2 3) (encAt k b (j + 1)).1 = (encAt k b (j + 1)).2 := by rw [encAt_succ]; rfl
      go_wp2_with (fail)
      replace HM := HM.drew
      refine wp_region_mixN (fun W => Held w W [.row v7 109 1 32 ((keyList k).flatMap encQ)]) (fun W => Held w W [.row v7 109 1 32 ((keyList k).flatMap encQ)]) (.cons (2, 0) (.cons (2, 2) (.cons (2, 4) (.cons (2, 5) (.cons (2, 6) (.cons (2, 7) (.cons (0, 1) (.cons (2, 3) (.cons (2, 8) (.cons (2, 9) .nil)))))))))) [] (by kernel_rfl) (by kernel_rfl) (by kernel_rfl) (fun W h => Held.weak h (by simp)) (HM.held (by simp)) ?_
      revert HM; generalize World.drew _ = W; intro HM
      have HS1 : Held w W [.row v7 109 1 32 ((keyList k).flatMap encQ)] := HM.held (by simp)
      have HS2 : Held w W [.row v7 109 1 32 ((keyList k).flatMap encQ)] := HM.held (by simp)
      refine wm_q2 (i := 0) (v := ?v6_1) (some 20) rfl rfl rfl HS2 (fun W HS => ?y6_1) ?_
      case y6_1 => (go_simp; try with_reducible rfl)
      simp only [Act.put, List.getElem_toArray, List.getElem_cons_succ, List.getElem_cons_zero, List.setIfInBounds_toArray, List.set_cons_succ, List.set_cons_zero]
      refine wm_q2 (i := 2) (v := ?v6_2) (some 22) rfl rfl rfl HS2 (fun W HS => ?y6_2) ?_
      case y6_2 => (go_simp; try with_reducible rfl)
      simp only [Act.put, List.getElem_toArray, List.getElem_cons_succ, List.getElem_cons_zero, List.setIfInBounds_toArray, List.set_cons_succ, List.set_cons_zero]
      refine wm_q2 (i := 4) (v := ?v6_3) (some 24) rfl rfl rfl HS2 (fun W HS => ?y6_3) ?_
      case y6_3 => (go_simp; try with_reducible rfl)
      simp only [Act.put, List.getElem_toArray, List.getElem_cons_succ, List.getElem_cons_zero, List.setIfInBounds_toArray, List.set_cons_succ, List.set_cons_zero]
      refine wm_q2 (i := 5) (v := ?v6_4) (some 25) rfl rfl rfl HS2 (fun W HS => ?y6_4) ?_
      case y6_4 => (go_simp; try with_reducible rfl)
      simp only [Act.put, List.getElem_toArray, List.getElem_cons_succ, List.getElem_cons_zero, List.setIfInBounds_toArray, List.set_cons_succ, List.set_cons_zero]
      (refine wm_q2x (i := 6) (some 26) rfl rfl rfl HS2 (ry_index _ 109 _ _ _ _ _ _ _ (fun W => Held w W [.row v7 109 1 32 ((keyList k).flatMap encQ)]) W encQ_len Try.underlying172 sz109 HS2 (fun W HS => rd_rowH HS m0 rfl (by decide) encQ_len) rfl rfl (by omega) (by first | assumption | simp [*])) ?_); intro p26 hp26
      simp only [Act.put, List.getElem_toArray, List.getElem_cons_succ, List.getElem_cons_zero, List.setIfInBounds_toArray, List.set_cons_succ, List.set_cons_zero]
      refine wm_q2 (i := 7) (some 27) rfl rfl rfl HS2 (fun W HS => (by refine ry_load_at1 _ _ _ _ _ ?_ (hp26 W HS) Try.underlying109 rfl; rfl)) ?_
      simp only [Act.put, List.getElem_toArray, List.getElem_cons_succ, List.getElem_cons_zero, List.setIfInBounds_toArray, List.set_cons_succ, List.set_cons_zero]
      refine wm_e0 (i := 1) rfl ?_
      go_wp2_with (first
        | (go_at_call 117; go_must (((with_reducible refine (rotr_8 _ _).mono ?_)); rintro e W ⟨rfl, HM'⟩; replace HM := HM.keep HM'.below; clear HM')))
      refine ⟨HM.held (by simp), ?_⟩
      clear HS1 HS2
      have HS1 : Held w W [.row v7 109 1 32 ((keyList k).flatMap encQ)] := HM.held (by simp)
      have HS2 : Held w W [.row v7 109 1 32 ((keyList k).flatMap encQ)] := HM.held (by simp)
      refine wm_q2 (i := 3) (v := ?v6_6) (some 23) rfl rfl rfl HS2 (fun W HS => ?y6_6) ?_
      case y6_6 => (go_simp; try with_reducible rfl)
      simp only [Act.put, List.getElem_toArray, List.getElem_cons_succ, List.getElem_cons_zero, List.setIfInBounds_toArray, List.set_cons_succ, List.set_cons_zero]
      refine wm_q2 (i := 8) (v := ?v6_7) (some 28) rfl rfl rfl HS2 (fun W HS => ?y6_7) ?_
      case y6_7 => (go_simp; try with_reducible rfl)
      simp only [Act.put, List.getElem_toArray, List.getElem_cons_succ, List.getElem_cons_zero, List.setIfInBounds_toArray, List.set_cons_succ, List.set_cons_zero]
      refine wm_q2 (i := 9) (v := ?v6_8) (some 5) rfl rfl rfl HS2 (fun W HS => ?y6_8) ?_
      case y6_8 => (go_simp; try with_reducible rfl)
      simp only [Act.put, List.getElem_toArray, List.getElem_cons_succ, List.getElem_cons_zero, List.setIfInBounds_toArray, List.set_cons_succ, List.set_cons_zero]
      refine wm_nilN ?_
      clear HS1 HS2
      go_wp2_with (first
        | (go_at_call 118; go_must (((with_reducible refine (rotl_3 _ _).mono ?_)); rintro e W ⟨rfl, HM'⟩; replace HM := HM.keep HM'.below; clear HM')))
      go_roundw
      case rel => exact ⟨j + 1, by omega, by go_num, rfl, rfl, HM⟩
      case measure => simp [intOf]; omega
    · obtain rfl : j = 32 := by omega
      go_wp2_with (first
        | ((with_reducible refine st_ 23 ?_); go_must ((refine wl_store_blk _ _ _ _ _ _ _ rfl rfl HM (.there .here) (by rw [kc_size]; exact sz23) (by simp only [kc_size]) (kc_one _) ?_); clear HM; intro W HM))
        | (go_at_call 119; go_must (((with_reducible refine (rblock_c _ _ _).mono ?_)); rintro e W ⟨rfl, HM'⟩; replace HM := HM.keep HM'.below; clear HM')))
      rw [show ((encAt k b 32).1, (encAt k b 32).2) = encAt k b 32 from rfl, encAt_end] at *
      refine ret1 rfl (by (exact res_row HM rfl m1 Try.underlying23 rfl (by rw [kc_size]; exact sz23))) rfl ?_
      exact ⟨rfl, HM.base⟩

theorem backAt_one (k : Key) (p : UInt64 × UInt64) (j : Nat) (h : j < 32) : backAt k p j = backF (backAt k p (j + 1)) (keyAt k j).2 := by
  have hl : j < (keyList k).length := by simp [keyList]; omega
  rw [backAt_step k p j hl]; simp [keyList]

set_option maxHeartbeats 400000 in
theorem rdecrypt_c (k b : Key) (w : World) :
    Calls Try.prog 121 #[.agg (kc k), .agg (kc b)] w fun e w' => e = .returned (.agg (kc (decryptK k b))) ∧ Mem w w' [] := by
  have HM := Mem.start w
  go_enter Try.func121, Try.ntmps121
  go_wp2_with (first
    | ((with_reducible refine s_ 2 ?_); go_must (refine wl_box (dst := some 2) (cs := kc k) _ _ _ rfl rfl HM ?_; clear HM; intro b2 W HM))
    | ((with_reducible refine s_ 3 ?_); go_must (refine wl_box (dst := some 3) (cs := kc b) _ _ _ rfl rfl HM ?_; clear HM; intro b3 W HM))
    | ((with_reducible refine s_ 4 ?_); go_must (refine wl_alloc (dst := some 4) (cs := kc zeroKey) 23 _ Try.zeroValue23 kc_zero HM ?_; clear HM; intro b4 W HM))
    | ((with_reducible refine ld_ 23 ?_); go_must (refine wl_load_blk _ _ _ _ _ _ rfl HM (by repeat first | exact List.mem_cons_self .. | refine List.mem_cons_of_mem _ ?_) Try.underlying23 rfl (by rw [kc_size]; exact sz23) ?_))
    | (go_at_call 115; go_must (((with_reducible refine (words_c _ _).mono ?_)); rintro e W ⟨rfl, HM'⟩; replace HM := HM.keep HM'.below; clear HM'))
    | (go_at_call 116; go_must (((with_reducible refine (roundKeys_c _ _).mono ?_)); rintro e W ⟨v7, rfl, HM'⟩; replace HM := HM.join HM'; clear HM'; simp only [List.cons_append, List.nil_append] at HM)))
  go_loopw [5, 6, 8] (fun x y c wr => ∃ j : Nat, j ≤ 32 ∧ c = .int .i64 ((j : Int) - 1) ∧ x = .int .u64 (backAt k (wordsK b) j).1.toNat ∧ y = .int .u64 (backAt k (wordsK b) j).2.toNat ∧ Mem w wr [.row v7 109 1 32 ((keyList k).flatMap encQ), .blk b4 (kc zeroKey) 23, .blk b3 (kc b) 23, .blk b2 (kc k) 23])
    (fun _ _ c _ => (intOf c + 1).toNat)
  case atStart => exact ⟨32, by omega, rfl, by rw [backAt_end], by rw [backAt_end], HM⟩
  case round =>
    clear HM
    obtain ⟨j, hj, rfl, rfl, rfl, HM⟩ := hrel
    rcases j with _ | j
    · have e0 : ((0 : Nat) : Int) - 1 = -1 := rfl
      rw [e0]
      go_wp2_with (first
        | ((with_reducible refine st_ 23 ?_); go_must ((refine wl_store_blk _ _ _ _ _ _ _ rfl rfl HM (.there .here) (by rw [kc_size]; exact sz23) (by simp only [kc_size]) (kc_one _) ?_); clear HM; intro W HM))
        | (go_at_call 119; go_must (((with_reducible refine (rblock_c _ _ _).mono ?_)); rintro e W ⟨rfl, HM'⟩; replace HM := HM.keep HM'.below; clear HM')))
      rw [show ((backAt k (wordsK b) 0).1, (backAt k (wordsK b) 0).2) = backAt k (wordsK b) 0 from rfl, backAt_zero, show blockK ((keyList k).reverse.foldl backF (wordsK b)) = decryptK k b from rfl] at *
      refine ret1 rfl (by (exact res_row HM rfl m1 Try.underlying23 rfl (by rw [kc_size]; exact sz23))) rfl ?_
      exact ⟨rfl, HM.base⟩
    · have hx : (keyList k)[j]? = some (keyAt k j).2 := by rw [← keysTo_32]; exact keysTo_at k 32 j (by omega)
      have hlen : (keyList k).length = 32 := by simp [keyList]
      have e1 : ((j + 1 : Nat) : Int) - 1 = (j : Int) := by omega
      rw [e1]
      have e2 : rotl (xorU (backAt k (wordsK b) (j + 1)).2 (backAt k (wordsK b) (j + 1)).1) 61 = (backAt k (wordsK b) j).2 := by rw [backAt_one k _ j (by omega), xorU_comm]; rfl
      have e3 : rotl (subU (xorU (backAt k (wordsK b) (j + 1)).1 (keyAt k j).2) (backAt k (wordsK b) j).2) 8 = (backAt k (wordsK b) j).1 := by rw [backAt_one k _ j (by omega)]; rfl
      go_wp2_with (first
        | ((with_reducible refine s_ 27 ?_); go_must ((refine wl_index (dst := some 27) _ 109 _ _ _ _ _ _ _ encQ_len Try.underlying172 sz109 rfl rfl (rd_row HM m0 rfl (by decide) encQ_len) (by omega) (by first | assumption | simp [*]) ?_); intro p27 hp27))
        | ((with_reducible refine s_ 28 ?_); go_must (refine wl_load_at1 (dst := some 28) _ _ _ _ _ rfl hp27 Try.underlying109 rfl ?_))
        | (go_at_call 117; go_must (((with_reducible refine (rotr_3 _ _).mono ?_)); rintro e W ⟨rfl, HM'⟩; replace HM := HM.keep HM'.below; clear HM'))
        | (go_at_call 118; go_must (((with_reducible refine (rotl_8 _ _).mono ?_)); rintro e W ⟨rfl, HM'⟩; replace HM := HM.keep HM'.below; clear HM')))
      go_roundw
      case rel => exact ⟨j, by omega, by go_num, by rw [← e3], by rw [← e2], HM⟩
      case measure => simp [intOf]
end

set_option maxHeartbeats 400000 in
theorem rderive_c (k : Key) (t : UInt8) (n : UInt64) (w : World) :
    Calls Try.prog 57 #[.agg (kc k), .int .u8 t.toNat, .int .u64 n.toNat] w fun e w' => e = .returned (.agg (kc (deriveK k t n))) ∧ Mem w w' [] := by
  have HM := Mem.start w
  have hB : ∀ W, Calls Try.prog 114 #[.int .u8 t.toNat, .int .u64 0, .int .u64 n.toNat] W fun e w' => e = .returned (.agg (kc (blockOfK t 0 n))) ∧ Mem W w' [] := fun W => rBlock_c t 0 n (by decide) W
  go_enter Try.func57, Try.ntmps57
  go_wp2_with (first
    | ((with_reducible refine s_ 3 ?_); go_must (refine wl_box (dst := some 3) (cs := kc k) _ _ _ rfl rfl HM ?_; clear HM; intro b3 W HM))
    | ((with_reducible refine s_ 6 ?_); go_must (refine wl_alloc (dst := some 6) (cs := kc zeroKey) 23 _ Try.zeroValue23 kc_zero HM ?_; clear HM; intro b6 W HM)))
  replace HM := HM.drew
  refine wp_region_mixN (fun W => Held w W [.blk b3 (kc k) 23]) (fun W => Held w W [.blk b3 (kc k) 23]) (.cons (2, 0) (.cons (2, 1) (.cons (2, 2) (.cons (0, 3) (.cons (0, 4) (.cons (0, 5) .nil)))))) [] (by kernel_rfl) (by kernel_rfl) (by kernel_rfl) (fun W h => Held.weak h (by simp)) (HM.held (by simp)) ?_
  revert HM; generalize World.drew _ = W; intro HM
  have HS1 : Held w W [.blk b3 (kc k) 23] := HM.held (by simp)
  have HS2 : Held w W [.blk b3 (kc k) 23] := HM.held (by simp)
  refine wm_q2 (i := 0) (some 7) rfl rfl rfl HS2 (fun W HS => (by ((refine ry_load_blk _ _ _ _ _ _ HS ?_ m0 Try.underlying23 rfl (by rw [kc_size]; exact sz23); rfl)))) ?_
  simp only [Act.put, List.getElem_toArray, List.getElem_cons_succ, List.getElem_cons_zero, List.setIfInBounds_toArray, List.set_cons_succ, List.set_cons_zero]
  refine wm_q2 (i := 1) (v := ?v1_2) (some 8) rfl rfl rfl HS2 (fun W HS => ?y1_2) ?_
  case y1_2 => (go_simp; try with_reducible rfl)
  simp only [Act.put, List.getElem_toArray, List.getElem_cons_succ, List.getElem_cons_zero, List.setIfInBounds_toArray, List.set_cons_succ, List.set_cons_zero]
  refine wm_q2 (i := 2) (v := ?v1_3) (some 9) rfl rfl rfl HS2 (fun W HS => ?y1_3) ?_
  case y1_3 => (go_simp; try with_reducible rfl)
  simp only [Act.put, List.getElem_toArray, List.getElem_cons_succ, List.getElem_cons_zero, List.setIfInBounds_toArray, List.set_cons_succ, List.set_cons_zero]
  refine wm_e0 (i := 3) rfl ?_
  go_wp2_with (first
    | (go_at_call 114; go_must (((with_reducible refine (hB _).mono ?_)); rintro e W ⟨rfl, HM'⟩; replace HM := HM.keep HM'.below; clear HM')))
  refine ⟨HM.held (by simp), ?_⟩
  clear HS1 HS2
  have HS1 : Held w W [.blk b3 (kc k) 23] := HM.held (by simp)
  have HS2 : Held w W [.blk b3 (kc k) 23] := HM.held (by simp)
  refine wm_e0 (i := 4) rfl ?_
  go_wp2_with (first
    | (go_at_call 56; go_must (((with_reducible refine (rencrypt_c _ _ _).mono ?_)); rintro e W ⟨rfl, HM'⟩; replace HM := HM.keep HM'.below; clear HM')))
  refine ⟨HM.held (by simp), ?_⟩
  clear HS1 HS2
  have HS1 : Held w W [.blk b3 (kc k) 23] := HM.held (by simp)
  have HS2 : Held w W [.blk b3 (kc k) 23] := HM.held (by simp)
  refine wm_e0 (i := 5) rfl ?_
  go_wp2_with (first
    | ((with_reducible refine st_ 23 ?_); go_must ((refine wl_store_blk _ _ _ _ _ _ _ rfl rfl HM .here (by rw [kc_size]; exact sz23) (by simp only [kc_size]) (kc_one _) ?_); clear HM; intro W HM)))
  refine ⟨HM.held (by simp), ?_⟩
  clear HS1 HS2
  have HS1 : Held w W [.blk b3 (kc k) 23] := HM.held (by simp)
  have HS2 : Held w W [.blk b3 (kc k) 23] := HM.held (by simp)
  refine wm_nilN ?_
  clear HS1 HS2
  go_wp2_with (fail)
  refine ret1 rfl (by (exact res_row HM rfl m0 Try.underlying23 rfl (by rw [kc_size]; exact sz23))) rfl ?_
  exact ⟨rfl, HM.base⟩

set_option maxHeartbeats 400000 in
theorem portions_c (v : Value) (l : List UInt8) (w : World) (hR : RdL encB 1 w v l) (hl : l.length ≤ 1073741824) :
    Calls Try.prog 111 #[v] w fun e w' => e = .returned (.int .i64 (((l.length + 15) / 16 : Nat) : Int)) ∧ Mem w w' [] := by
  have HM := Mem.start w
  have h1 : IntKind.i64.wrap ((l.length : Int) + 15) = (l.length : Int) + 15 := by rw [IntKind.wrap_i64]; omega
  go_enter Try.func111, Try.ntmps111
  go_wp2_with (first
    | ((with_reducible refine s_ 4 ?_); go_must ((refine wl_len (dst := some 4) _ _ _ _ 5 Try.underlying24 rfl (hR.mem HM) ?_))))
  refine ret1 rfl (res_tmp rfl) rfl ?_
  refine ⟨?_, HM⟩
  rw [Int.natCast_ediv]; rfl

set_option maxHeartbeats 400000 in
theorem portion_c (v : Value) (l : List UInt8) (i : Nat) (w : World) (hR : RdL encB 1 w v l) (hl : l.length ≤ 1073741824) (hi : 16 * i ≤ l.length) :
    Calls Try.prog 113 #[v, .int .i64 i] w fun e w' => e = .returned (.agg (kc (keyL (l.drop (16 * i))))) ∧ Mem w w' [] := by
  have HM := Mem.start w
  have h1 : IntKind.i64.wrap (16 * (i : Int)) = 16 * (i : Int) := by rw [IntKind.wrap_i64]; omega
  have h2 : (16 * (i : Int)).toNat = 16 * i := by omega
  go_enter Try.func113, Try.ntmps113
  go_wp2_with (first
    | ((with_reducible refine s_ 4 ?_); go_must (refine wl_alloc (dst := some 4) (cs := kc zeroKey) 23 _ Try.zeroValue23 kc_zero HM ?_; clear HM; intro b4 W HM))
    | ((with_reducible refine s_ 8 ?_); go_must ((refine wl_slice_lo (dst := some 8) _ 5 _ _ _ _ _ _ encB_len Try.underlying24 sz5 rfl rfl (hR.mem HM) (by omega) (by omega) ?_); intro v8 hv8))
    | ((with_reducible refine st_ 23 ?_); go_must ((refine wl_store_blk _ _ _ _ _ _ _ rfl rfl HM .here (by rw [kc_size]; exact sz23) (by simp only [kc_size]) (kc_one _) ?_); clear HM; intro W HM))
    | (go_at_call 145; go_must (((with_reducible refine (key_c _ _ _ hv8 (by simp; omega)).mono ?_)); rintro e W ⟨rfl, HM'⟩; replace HM := HM.keep HM'.below; clear HM')))
  refine ret1 rfl (by (exact res_row HM rfl m0 Try.underlying23 rfl (by rw [kc_size]; exact sz23))) rfl ?_
  exact ⟨rfl, HM.base⟩

/-- The first j bytes combined. -/
def xorTo (a b : Key) (j : Nat) : Key := Vector.ofFn fun i : Fin 16 => if i.1 < j then xorB a[i] b[i] else a[i]
theorem xorTo_zero (a b : Key) : xorTo a b 0 = a := by apply Vector.ext; intro i hi; simp [xorTo]
theorem xorTo_end (a b : Key) : xorTo a b 16 = xorK a b := by apply Vector.ext; intro i hi; simp [xorTo, xorK, hi]
theorem xorTo_at (a b : Key) (j : Nat) (h : j < 16) : (xorTo a b j)[j] = a[j] := by simp [xorTo]
theorem xorTo_set (a b : Key) (j : Nat) (h : j < 16) : (xorTo a b j).set j (xorB a[j] b[j]) = xorTo a b (j + 1) := by
  apply Vector.ext; intro i hi
  rw [Vector.getElem_set]
  simp only [xorTo, Vector.getElem_ofFn]
  by_cases e : j = i
  · subst e; simp
  · rw [if_neg e]
    by_cases h1 : i < j
    · simp [h1, show i < j + 1 by omega]
    · simp [h1, show ¬ i < j + 1 by omega]

attribute [irreducible] xorTo
attribute [local go_sem] bx8 in
set_option maxHeartbeats 400000 in
theorem rxor_c (a b : Key) (w : World) :
    Calls Try.prog 112 #[.agg (kc a), .agg (kc b)] w fun e w' => e = .returned (.agg (kc (xorK a b))) ∧ Mem w w' [] := by
  have HM := Mem.start w
  go_enter Try.func112, Try.ntmps112
  go_wp2_with (first
    | ((with_reducible refine s_ 2 ?_); go_must (refine wl_box (dst := some 2) (cs := kc a) _ _ _ rfl rfl HM ?_; clear HM; intro b2 W HM))
    | ((with_reducible refine s_ 3 ?_); go_must (refine wl_box (dst := some 3) (cs := kc b) _ _ _ rfl rfl HM ?_; clear HM; intro b3 W HM))
    | ((with_reducible refine s_ 4 ?_); go_must (refine wl_alloc (dst := some 4) (cs := kc zeroKey) 23 _ Try.zeroValue23 kc_zero HM ?_; clear HM; intro b4 W HM)))
  go_loopw [5] (fun i wr => ∃ j : Nat, j ≤ 16 ∧ i = .int .i64 j ∧ Mem w wr [.blk b4 (kc zeroKey) 23, .blk b3 (kc b) 23, .blk b2 (kc (xorTo a b j)) 23])
    (fun i _ => 16 - (intOf i).toNat)
  case atStart => exact ⟨0, by omega, rfl, by rw [xorTo_zero]; exact HM⟩
  case round =>
    clear HM
    obtain ⟨j, hj, rfl, HM⟩ := hrel
    by_cases hlt : j < 16
    · have hca : (kc (xorTo a b j))[j]? = some (.int .u8 (a[j]'hlt).toNat) := by rw [kc_at _ j hlt, xorTo_at]
      have hb1 : (j : Int) < 16 := by omega
      go_wp2_with (fail)
      replace HM := HM.drew
      refine wp_region_mixN (fun W => Held w W [.blk b3 (kc b) 23, .blk b2 (kc (xorTo a b j)) 23]) (fun W => Held w W [.blk b3 (kc b) 23]) (.cons (2, 0) (.cons (2, 1) (.cons (2, 2) (.cons (1, 3) (.cons (2, 4) (.cons (2, 5) (.cons (2, 6) (.cons (2, 7) (.cons (2, 8) (.cons (3, 9) .nil)))))))))) [9] (by kernel_rfl) (by kernel_rfl) (by kernel_rfl) (fun W h => Held.weak h (by simp)) (HM.held (by simp)) ?_
      revert HM; generalize World.drew _ = W; intro HM
      have HS1 : Held w W [.blk b3 (kc b) 23, .blk b2 (kc (xorTo a b j)) 23] := HM.held (by simp)
      have HS2 : Held w W [.blk b3 (kc b) 23] := HM.held (by simp)
      refine wm_q2 (i := 0) (v := ?v4_1) (some 10) rfl rfl rfl HS2 (fun W HS => ?y4_1) ?_
      case y4_1 => (go_simp; try with_reducible rfl)
      simp only [Act.put, List.getElem_toArray, List.getElem_cons_succ, List.getElem_cons_zero, List.setIfInBounds_toArray, List.set_cons_succ, List.set_cons_zero]
      refine wm_q2 (i := 1) (v := ?v4_2) (some 11) rfl rfl rfl HS2 (fun W HS => ?y4_2) ?_
      case y4_2 => (go_simp; try with_reducible rfl)
      simp only [Act.put, List.getElem_toArray, List.getElem_cons_succ, List.getElem_cons_zero, List.setIfInBounds_toArray, List.set_cons_succ, List.set_cons_zero]
      refine wm_q2 (i := 2) (v := ?v4_3) (some 12) rfl rfl rfl HS2 (fun W HS => ?y4_3) ?_
      case y4_3 => (go_simp; try with_reducible rfl)
      simp only [Act.put, List.getElem_toArray, List.getElem_cons_succ, List.getElem_cons_zero, List.setIfInBounds_toArray, List.set_cons_succ, List.set_cons_zero]
      refine wm_q1 (i := 3) (some 13) rfl rfl rfl HS1 (fun W HS => (by ((refine ry_load_cell _ _ _ _ _ _ (.int .u8 (a[j]'hlt).toNat) _ HS ?_ m1 (hca) Try.underlying5 rfl; rfl)))) ?_
      simp only [Act.put, List.getElem_toArray, List.getElem_cons_succ, List.getElem_cons_zero, List.setIfInBounds_toArray, List.set_cons_succ, List.set_cons_zero]
      refine wm_q2 (i := 4) (v := ?v4_5) (some 14) rfl rfl rfl HS2 (fun W HS => ?y4_5) ?_
      case y4_5 => (go_simp; try with_reducible rfl)
      simp only [Act.put, List.getElem_toArray, List.getElem_cons_succ, List.getElem_cons_zero, List.setIfInBounds_toArray, List.set_cons_succ, List.set_cons_zero]
      refine wm_q2 (i := 5) (v := ?v4_6) (some 15) rfl rfl rfl HS2 (fun W HS => ?y4_6) ?_
      case y4_6 => (go_simp; try with_reducible rfl)
      simp only [Act.put, List.getElem_toArray, List.getElem_cons_succ, List.getElem_cons_zero, List.setIfInBounds_toArray, List.set_cons_succ, List.set_cons_zero]
      refine wm_q2 (i := 6) (some 16) rfl rfl rfl HS2 (fun W HS => (by ((refine ry_load_cell _ _ _ _ _ _ (.int .u8 (b[j]'hlt).toNat) _ HS ?_ m0 (kc_at b j hlt) Try.underlying5 rfl; rfl)))) ?_
      simp only [Act.put, List.getElem_toArray, List.getElem_cons_succ, List.getElem_cons_zero, List.setIfInBounds_toArray, List.set_cons_succ, List.set_cons_zero]
      refine wm_q2 (i := 7) (v := ?v4_8) (some 17) rfl rfl rfl HS2 (fun W HS => ?y4_8) ?_
      case y4_8 => (go_simp; try with_reducible rfl)
      simp only [Act.put, List.getElem_toArray, List.getElem_cons_succ, List.getElem_cons_zero, List.setIfInBounds_toArray, List.set_cons_succ, List.set_cons_zero]
      refine wm_q2 (i := 8) (v := ?v4_9) (some 18) rfl rfl rfl HS2 (fun W HS => ?y4_9) ?_
      case y4_9 => (go_simp; try with_reducible rfl)
      simp only [Act.put, List.getElem_toArray, List.getElem_cons_succ, List.getElem_cons_zero, List.setIfInBounds_toArray, List.set_cons_succ, List.set_cons_zero]
      refine wm_e3 (i := 9) rfl ?_
      go_wp2_with (first
        | ((with_reducible refine st_ 5 ?_); go_must ((refine wl_store_cell _ _ _ _ _ _ _ _ _ rfl rfl HM (.there (.there .here)) sz5 rfl (by first | omega | (simp; done) | (simp [kc_size]; omega) | (simp only [Array.size_setIfInBounds, bytesC_size, List.length_append, List.length_replicate, List.length_set]; omega)) rfl ?_); clear HM; intro W HM; try (simp only [Act.eval, Array.getD_eq_getD_getElem?, List.getElem?_toArray, List.getElem?_cons_succ, List.getElem?_cons_zero, Option.getD_some, List.setIfInBounds_toArray, List.set_cons_succ, List.set_cons_zero] at HM))))
      refine ⟨HM.held (by simp), ?_⟩
      clear HS1 HS2
      have HS1 : True := trivial
      have HS2 : Held w W [.blk b3 (kc b) 23] := HM.held (by simp)
      refine wm_nilN ?_
      clear HS1 HS2
      go_wp2_with (fail)
      rw [kc_set _ _ hlt, xorTo_set a b j hlt] at HM
      go_roundw
      case rel => exact ⟨j + 1, by omega, by go_num, HM⟩
      case measure => simp [intOf]; omega
    · obtain rfl : j = 16 := by omega
      rw [xorTo_end] at HM
      go_wp2_with (first
        | ((with_reducible refine ld_ 23 ?_); go_must (refine wl_load_blk _ _ _ _ _ _ rfl HM (by repeat first | exact List.mem_cons_self .. | refine List.mem_cons_of_mem _ ?_) Try.underlying23 rfl (by rw [kc_size]; exact sz23) ?_))
        | ((with_reducible refine st_ 23 ?_); go_must ((refine wl_store_blk _ _ _ _ _ _ _ rfl rfl HM .here (by rw [kc_size]; exact sz23) (by simp only [kc_size]) (kc_one _) ?_); clear HM; intro W HM)))
      refine ret1 rfl (by (exact res_row HM rfl m0 Try.underlying23 rfl (by rw [kc_size]; exact sz23))) rfl ?_
      exact ⟨rfl, HM.base⟩
end Go.Proofs.Ythdekionepfmdaa
