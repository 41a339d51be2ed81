/- Digests: the reference's, and audit's. -/
import Derived.Test.YthdekionepfmdaaDgb
set_option linter.unusedVariables false
set_option linter.unusedSimpArgs false
set_option maxRecDepth 8000
namespace Go.Proofs.Ythdekionepfmdaa
open Go.RowKit

set_option maxHeartbeats 400000 in
theorem digest_c (v : Value) (l : List UInt8) (w : World) (hR : RdL encB 1 w v l) (hl : l.length ≤ 16384) :
    Calls Try.prog 122 #[v] w fun e w' => e = .returned (.agg (kc (digestL l))) ∧ Mem w w' [] := by
  have HM := Mem.start w
  go_enter Try.func122, Try.ntmps122
  go_wp2_with (first
    | ((with_reducible refine s_ 2 ?_); go_must (refine wl_alloc (dst := some 2) (cs := kc zeroKey) 23 _ Try.zeroValue23 kc_zero HM ?_; clear HM; intro b2 W HM))
    | ((with_reducible refine s_ 3 ?_); go_must (refine wl_alloc (dst := some 3) (cs := kc zeroKey) 23 _ Try.zeroValue23 kc_zero HM ?_; clear HM; intro b3 W HM))
    | ((with_reducible refine st_ 23 ?_); go_must ((first | refine wl_store_blk _ _ _ _ _ _ _ rfl rfl HM .here (by rw [kc_size]; exact sz23) (by simp only [kc_size]) (kc_one _) ?_ | refine wl_store_blk _ _ _ _ _ _ _ rfl rfl HM (.there .here) (by rw [kc_size]; exact sz23) (by simp only [kc_size]) (kc_one _) ?_); clear HM; intro W HM))
    | ((with_reducible refine ld_ 23 ?_); go_must (refine wl_load_blk _ _ _ _ _ _ rfl HM (by repeat first | exact List.mem_cons_self .. | refine List.mem_cons_of_mem _ ?_) Try.underlying23 rfl (by rw [kc_size]; exact sz23) ?_))
    | (go_at_call 148; go_must (((with_reducible refine (hash_c _ _ _ (hR.mem HM) hl).mono ?_)); rintro e W ⟨rfl, HM'⟩; replace HM := HM.keep HM'.below; clear HM')))
  refine ret1 rfl (by (exact res_row HM rfl m1 Try.underlying23 rfl (by rw [kc_size]; exact sz23))) rfl ?_
  exact ⟨rfl, HM.base⟩

theorem lenOf_row {α : Type} {enc : α → List Value} {size : Nat} {w : World} {B : Nat} {e : TypeId} {n : Nat} {v : Value} {xs : List Value} (h : w.ownsRow B e size v n xs) : lenOf v = n := by
  rcases h.2 with ⟨rfl, h0⟩ | ⟨g, cap, cur, rfl, _⟩
  · exact h0.symm
  · rfl
theorem flat_snoc {α : Type} (enc : α → List Value) (l : List α) (x : α) : l.flatMap enc ++ [x].flatMap enc = (l ++ [x]).flatMap enc := List.flatMap_append.symm

theorem flat_snoc' {α : Type} (enc : α → List Value) (l m : List α) : l.flatMap enc ++ m.flatMap enc = (l ++ m).flatMap enc := List.flatMap_append.symm
set_option maxHeartbeats 400000 in
theorem pad_c (n : Nat) (hn : n ≤ 16384) (w : World) :
    Calls Try.prog 149 #[.int .i64 n] w fun e w' => ∃ v, e = .returned v ∧ Mem w w' [.row v 5 1 (9 + padZ n) (([128] ++ List.replicate (padZ n) 0 ++ bytesN (UInt64.ofNat n) 8).flatMap encB)] := by
  have HM := Mem.start w
  have hB : ∀ W, Calls Try.prog 138 #[.int .u64 (n : Int), .int .i64 8] W fun e w' => ∃ v, e = .returned v ∧ Mem W w' [.row v 5 1 8 ((bytesN (UInt64.ofNat n) 8).flatMap encB)] := by
    intro W
    have e : (n : Int) = ((UInt64.ofNat n).toNat : Int) := by rw [UInt64.toNat_ofNat']; omega
    have := bytes8_c (UInt64.ofNat n) W
    rwa [← e] at this
  have hw : (n : Int) % 18446744073709551616 = (n : Int) := by omega
  go_enter Try.func149, Try.ntmps149
  go_wp2_with (first
    | ((with_reducible refine s_ 4 ?_); go_must (refine wl_buildSlice (dst := some 4) (cs := #[.int .u8 128]) _ _ _ 5 1 _ Try.underlying24 Try.sizeOf5 Try.zeroValue5 (by decide) (by simp [Instr.fill, Act.eval, Act.put, Value.cells, undef, ← List.toArray_range, List.range_succ]) HM ?_; clear HM; intro b4 W HM; replace HM := HM.toRow 1 1 .here rfl (by simp [maxLen]))))
  go_loopw [3] (fun o wr => ∃ z : Nat, z ≤ padZ n ∧ Mem w wr [.row o 5 1 (1 + z) (([128] ++ List.replicate z (0 : UInt8)).flatMap encB)])
    (fun o _ => 17 - lenOf o)
  case atStart => exact ⟨0, by omega, HM⟩
  case round =>
    clear HM
    obtain ⟨z, hz, HM⟩ := hrel
    have hzl := padZ_lt n
    have hlo : lenOf u3 = 1 + z := lenOf_row (enc := encB) (HM.row m0)
    have hlen : ([128] ++ List.replicate z (0 : UInt8)).length = 1 + z := by simp; omega
    have w1 : IntKind.i64.wrap ((n : Int) + (1 + (z : Int))) = (n : Int) + (1 + (z : Int)) := by rw [IntKind.wrap_i64]; omega
    have w2 : IntKind.i64.wrap ((n : Int) + (1 + (z : Int)) + 8) = (n : Int) + (1 + (z : Int)) + 8 := by rw [IntKind.wrap_i64]; omega
    by_cases hlt : z < padZ n
    · have hc : ¬ ((n : Int) + (1 + (z : Int)) + 8) % 16 = 0 := by simp only [padZ] at hlt; omega
      go_wp2_with (first
        | ((with_reducible refine s_ 7 ?_); go_must ((refine wl_len (dst := some 7) _ _ _ _ 5 Try.underlying24 rfl (rd_row HM m0 (l := [128] ++ List.replicate z 0) rfl) ?_)))
        | ((with_reducible refine s_ 13 ?_); go_must (refine wl_buildSlice (dst := some 13) (cs := #[.int .u8 0]) _ _ _ 5 1 _ Try.underlying24 Try.sizeOf5 Try.zeroValue5 (by decide) (by simp [Instr.fill, Act.eval, Act.put, Value.cells, undef, ← List.toArray_range, List.range_succ]) HM ?_; clear HM; intro b13 W HM))
        | ((with_reducible refine s_ 14 ?_); go_must (refine wl_append (dst := some 14) (enc := encB) _ _ _ _ _ _ _ _ _ _ _ ([0]) Try.underlying24 inf5 rfl (by decide) encB_len encB_one HM (.there .here) (RdL.of_blk (HM.blk m0) _ 1 rfl rfl (by decide)) rfl rfl (by decide) (by simp; omega) ?_; clear HM; intro v14 W HM; try dsimp only at HM)))
      rw [flat_snoc, List.append_assoc, show List.replicate z (0 : UInt8) ++ [0] = List.replicate (z + 1) 0 from by rw [rep_add]; rfl] at HM
      go_roundw
      case rel => exact ⟨z + 1, by omega, HM.tail⟩
      case measure => have := lenOf_row (enc := encB) (HM.row m1); simp only [List.length_singleton] at this; omega
    · have hzz : z = padZ n := by omega
      have hc : ((n : Int) + (1 + (z : Int)) + 8) % 16 = 0 := by have := padZ_mod n; omega
      go_wp2_with (first
        | ((with_reducible refine s_ 7 ?_); go_must ((refine wl_len (dst := some 7) _ _ _ _ 5 Try.underlying24 rfl (rd_row HM m0 (l := [128] ++ List.replicate z 0) rfl) ?_)))
        | ((with_reducible refine s_ 19 ?_); go_must (refine wl_append (dst := some 19) (enc := encB) _ _ _ _ _ _ _ _ _ _ _ (bytesN (UInt64.ofNat n) 8) Try.underlying24 inf5 rfl (by decide) encB_len encB_one HM (.there .here) (rd_row HM m0 rfl) rfl rfl (by decide) (by rw [bytesN_len]; omega) ?_; clear HM; intro v19 W HM; try dsimp only at HM))
        | (go_at_call 138; go_must (((with_reducible refine (hB _).mono ?_)); rintro e W ⟨v, rfl, HM'⟩; replace HM := HM.join HM'; clear HM'; simp only [List.cons_append, List.nil_append] at HM)))
      refine ret1 rfl (res_tmp rfl) rfl ?_
      rw [flat_snoc', hzz, bytesN_len, show 1 + padZ n + 8 = 9 + padZ n by omega] at HM
      exact ⟨_, rfl, HM.only m1⟩
set_option maxHeartbeats 1600000 in
theorem rdigest_c (v : Value) (l : List UInt8) (w : World) (hR : RdL encB 1 w v l) (hl : l.length ≤ 16384) :
    Calls Try.prog 125 #[v] w fun e w' => e = .returned (.agg (kc (digestL l))) ∧ Mem w w' [] := by
  have HM := Mem.start w
  have hz := padZ_lt l.length
  have hpl := padL_len l
  go_enter Try.func125, Try.ntmps125
  go_wp2_with (first
    | ((with_reducible refine s_ 2 ?_); go_must (refine wl_alloc (dst := some 2) (cs := kc zeroKey) 23 _ Try.zeroValue23 kc_zero HM ?_; clear HM; intro b2 W HM))
    | ((with_reducible refine s_ 3 ?_); go_must (refine wl_alloc (dst := some 3) (cs := kc zeroKey) 23 _ Try.zeroValue23 kc_zero HM ?_; clear HM; intro b3 W HM)))
  go_loopw [4] (fun i wr => ∃ j : Nat, j ≤ 16 ∧ i = .int .i64 j ∧ Mem w wr [.blk b3 (kc (fill j)) 23, .blk b2 (kc zeroKey) 23])
    (fun i _ => 16 - (intOf i).toNat)
  case atStart => exact ⟨0, by omega, rfl, by rw [fill_zero]; exact HM⟩
  case round =>
    clear HM
    obtain ⟨j, hj, rfl, HM⟩ := hrel
    by_cases hlt : j < 16
    · have hb1 : (j : Int) < 16 := by omega
      go_wp2_with (first
        | ((with_reducible refine st_ 5 ?_); go_must ((refine wl_store_cell _ _ _ _ _ _ _ _ _ rfl rfl HM .here sz5 rfl (by first | omega | (simp; done) | (simp [kc_size]; omega) | (simp only [Array.size_setIfInBounds, bytesC_size, List.length_append, List.length_replicate, List.length_set]; omega)) rfl ?_); clear HM; intro W HM; try (simp only [Act.eval, Array.getD_eq_getD_getElem?, List.getElem?_toArray, List.getElem?_cons_succ, List.getElem?_cons_zero, Option.getD_some, List.setIfInBounds_toArray, List.set_cons_succ, List.set_cons_zero] at HM))))
      rw [show (kc (fill j)).setIfInBounds j (.int .u8 90) = kc (fill (j + 1)) from by rw [← fill_set j hlt]; exact kc_set _ _ hlt 90] at HM
      go_roundw
      case rel => exact ⟨j + 1, by omega, by go_num, HM⟩
      case measure => simp [intOf]; omega
    · obtain rfl : j = 16 := by omega
      rw [fill_end] at HM
      go_wp2_with (first
        | ((with_reducible refine s_ 13 ?_); go_must (refine wl_empty (dst := some 13) _ _ _ Try.underlying24 Try.sizeOf5 HM ?_; clear HM; intro b13 W HM))
        | ((with_reducible refine s_ 15 ?_); go_must (refine wl_append (dst := some 15) (enc := encB) _ _ _ _ _ _ _ _ _ _ _ (l) Try.underlying24 inf5 rfl (by decide) encB_len encB_one HM .here (hR.mem HM) rfl rfl (by decide) (by omega) ?_; clear HM; intro v15 W HM; try dsimp only at HM))
        | ((with_reducible refine s_ 18 ?_); go_must ((refine wl_len (dst := some 18) _ _ _ _ 5 Try.underlying24 rfl (hR.mem HM) ?_)))
        | ((with_reducible refine s_ 20 ?_); go_must (refine wl_append (dst := some 20) (enc := encB) _ _ _ _ _ _ _ _ _ _ _ (([128] ++ List.replicate (padZ l.length) 0 ++ bytesN (UInt64.ofNat l.length) 8)) Try.underlying24 inf5 rfl (by decide) encB_len encB_one HM (.there .here) (rd_row HM m0 rfl) rfl rfl (by decide) (by simp [bytesN_len]; omega) ?_; clear HM; intro v20 W HM; try dsimp only at HM))
        | (go_at_call 149; go_must (((with_reducible refine (pad_c _ hl _).mono ?_)); rintro e W ⟨v19, rfl, HM'⟩; replace HM := HM.join HM'; clear HM'; simp only [List.cons_append, List.nil_append] at HM)))
      have e1 : 0 + l.length + ([128] ++ List.replicate (padZ l.length) (0 : UInt8) ++ bytesN (UInt64.ofNat l.length) 8).length = (padL l).length := by rw [hpl]; simp [bytesN_len]; omega
      have HM1 := HM.tail
      rw [flat_snoc', e1, show l ++ ([128] ++ List.replicate (padZ l.length) (0 : UInt8) ++ bytesN (UInt64.ofNat l.length) 8) = padL l from rfl] at HM1
      clear HM e1
      have HM := HM1
      clear HM1
      have hmod := padZ_mod l.length
      obtain ⟨n, hn⟩ : ∃ n, n = (l.length + 9 + padZ l.length) / 16 := ⟨_, rfl⟩
      have hnl : (padL l).length = 16 * n := by omega
      go_loopw [6] (fun c wr => ∃ i : Nat, i ≤ n ∧ c = .int .i64 i ∧ Mem w wr [.row v20 5 1 (padL l).length ((padL l).flatMap encB), .blk b3 (kc (digTo startKey (padL l) i)) 23, .blk b2 (kc zeroKey) 23])
        (fun c _ => n - (intOf c).toNat)
      case atStart => exact ⟨0, by omega, rfl, HM⟩
      case round =>
        clear HM
        obtain ⟨i, hi, rfl, HM⟩ := hrel
        by_cases hlt2 : i < n
        · have hb2 : (i : Int) < (((padL l).length : Int) + 15) / 16 := by omega
          go_wp2_with (first
            | (go_at_call 111; go_must (((with_reducible refine (portions_c _ (padL l) _ (rd_row HM m0 rfl) (by omega)).mono ?_)); rintro e W ⟨rfl, HM'⟩; replace HM := HM.keep HM'.below; clear HM')))
          replace HM := HM.drew
          refine wp_region_mixN (fun W => Held w W [.blk b3 (kc (digTo startKey (padL l) i)) 23]) (fun W => Held w W []) (.cons (2, 0) (.cons (2, 1) (.cons (1, 3) (.cons (1, 5) (.cons (0, 2) (.cons (0, 4) (.cons (0, 6) (.cons (3, 7) .nil)))))))) [7] (by kernel_rfl) (by kernel_rfl) (by kernel_rfl) (fun W h => Held.weak h (by simp)) (HM.held (by simp)) ?_
          revert HM; generalize World.drew _ = W; intro HM
          have HS1 : Held w W [.blk b3 (kc (digTo startKey (padL l) i)) 23] := HM.held (by simp)
          have HS2 : Held w W [] := HM.held (by simp)
          refine wm_q2 (i := 0) (v := ?v11_1) (some 27) rfl rfl rfl HS2 (fun W HS => ?y11_1) ?_
          case y11_1 => (go_simp; try with_reducible rfl)
          simp only [Act.put, List.getElem_toArray, List.getElem_cons_succ, List.getElem_cons_zero, List.setIfInBounds_toArray, List.set_cons_succ, List.set_cons_zero]
          refine wm_q2 (i := 1) (v := ?v11_2) (some 28) rfl rfl rfl HS2 (fun W HS => ?y11_2) ?_
          case y11_2 => (go_simp; try with_reducible rfl)
          simp only [Act.put, List.getElem_toArray, List.getElem_cons_succ, List.getElem_cons_zero, List.setIfInBounds_toArray, List.set_cons_succ, List.set_cons_zero]
          refine wm_q1 (i := 3) (some 30) rfl rfl rfl HS1 (fun W HS => (by ((refine ry_load_blk _ _ _ _ _ _ HS ?_ m0 Try.underlying23 rfl (by rw [kc_size]; exact sz23); rfl)))) ?_
          simp only [Act.put, List.getElem_toArray, List.getElem_cons_succ, List.getElem_cons_zero, List.setIfInBounds_toArray, List.set_cons_succ, List.set_cons_zero]
          refine wm_q1 (i := 5) (some 32) rfl rfl rfl HS1 (fun W HS => (by ((refine ry_load_blk _ _ _ _ _ _ HS ?_ m0 Try.underlying23 rfl (by rw [kc_size]; exact sz23); rfl)))) ?_
          simp only [Act.put, List.getElem_toArray, List.getElem_cons_succ, List.getElem_cons_zero, List.setIfInBounds_toArray, List.set_cons_succ, List.set_cons_zero]
          refine wm_e0 (i := 2) rfl ?_
          go_wp2_with (first
            | (go_at_call 113; go_must (((with_reducible refine (portion_c _ (padL l) i _ (rd_row HM m0 rfl) (by omega) (by omega)).mono ?_)); rintro e W ⟨rfl, HM'⟩; replace HM := HM.keep HM'.below; clear HM')))
          refine ⟨HM.held (by simp), ?_⟩
          clear HS1 HS2
          have HS1 : Held w W [.blk b3 (kc (digTo startKey (padL l) i)) 23] := HM.held (by simp)
          have HS2 : Held w W [] := HM.held (by simp)
          refine wm_e0 (i := 4) rfl ?_
          go_wp2_with (first
            | (go_at_call 56; go_must (((with_reducible refine (rencrypt_c _ _ _).mono ?_)); rintro e W ⟨rfl, HM'⟩; replace HM := HM.keep HM'.below; clear HM')))
          refine ⟨HM.held (by simp), ?_⟩
          clear HS1 HS2
          have HS1 : Held w W [.blk b3 (kc (digTo startKey (padL l) i)) 23] := HM.held (by simp)
          have HS2 : Held w W [] := HM.held (by simp)
          refine wm_e0 (i := 6) rfl ?_
          go_wp2_with (first
            | (go_at_call 112; go_must (((with_reducible refine (rxor_c _ _ _).mono ?_)); rintro e W ⟨rfl, HM'⟩; replace HM := HM.keep HM'.below; clear HM')))
          refine ⟨HM.held (by simp), ?_⟩
          clear HS1 HS2
          have HS1 : Held w W [.blk b3 (kc (digTo startKey (padL l) i)) 23] := HM.held (by simp)
          have HS2 : Held w W [] := HM.held (by simp)
          refine wm_e3 (i := 7) rfl ?_
          go_wp2_with (first
            | ((with_reducible refine st_ 23 ?_); go_must ((refine wl_store_blk _ _ _ _ _ _ _ rfl rfl HM (.there .here) (by rw [kc_size]; exact sz23) (by simp only [kc_size]) (kc_one _) ?_); clear HM; intro W HM)))
          refine ⟨HM.held (by simp), ?_⟩
          clear HS1 HS2
          have HS1 : True := trivial
          have HS2 : Held w W [] := HM.held (by simp)
          refine wm_nilN ?_
          clear HS1 HS2
          go_wp2_with (fail)
          rw [show xorK (encryptK (keyL ((padL l).drop (16 * i))) (digTo startKey (padL l) i)) (digTo startKey (padL l) i) = digTo startKey (padL l) (i + 1) from by rw [digTo_succ]; rfl] at HM
          go_roundw
          case rel => exact ⟨i + 1, by omega, by go_num, HM⟩
          case measure => simp [intOf]; omega
        · obtain rfl : i = n := by omega
          have hb2 : ¬ (i : Int) < (((padL l).length : Int) + 15) / 16 := by omega
          go_wp2_with (first
            | ((with_reducible refine ld_ 23 ?_); go_must (refine wl_load_blk _ _ _ _ _ _ rfl HM (by repeat first | exact List.mem_cons_self .. | refine List.mem_cons_of_mem _ ?_) Try.underlying23 rfl (by rw [kc_size]; exact sz23) ?_))
            | ((with_reducible refine st_ 23 ?_); go_must ((refine wl_store_blk _ _ _ _ _ _ _ rfl rfl HM (.there (.there .here)) (by rw [kc_size]; exact sz23) (by simp only [kc_size]) (kc_one _) ?_); clear HM; intro W HM))
            | (go_at_call 111; go_must (((with_reducible refine (portions_c _ (padL l) _ (rd_row HM m0 rfl) (by omega)).mono ?_)); rintro e W ⟨rfl, HM'⟩; replace HM := HM.keep HM'.below; clear HM')))
          refine ret1 rfl (by (exact res_row HM rfl m2 Try.underlying23 rfl (by rw [kc_size]; exact sz23))) rfl ?_
          refine ⟨?_, HM.base⟩
          rw [digestL, ← hn]
end Go.Proofs.Ythdekionepfmdaa
